import Derived.Test.YtipbefckimdkkaaGreatGE
import Derived.Test.YtipbefckimdkkaaGreatGC
import Derived.Test.YtipbefckimdkkaaGreatProg
import Derived.KernelRfl
import Derived.Test.YtipbefckimdkkaaGreatGD
import Derived.Test.YtipbefckimdkkaaGreatGH
import Derived.Test.YtipbefckimdkkaaGreatHA
import Derived.Test.YtipbefckimdkkaaGreatGL
import Derived.Test.YtipbefckimdkkaaGreatGJ
import Derived.Test.YtipbefckimdkkaaGreatGO
import Derived.Test.YtipbefckimdkkaaGreatGM
import Derived.Test.YtipbefckimdkkaaGreatGK
import Derived.Test.YtipbefckimdkkaaGreatGI
import Derived.Test.YtipbefckimdkkaaGreatGN
import Derived.Test.YtipbefckimdkkaaGreatGS
namespace Go.Proofs.YtipbefckimdkkaaGreat.F
open Go Go.Proofs Go.Proofs.YtipbefckimdkkaaGreat.E Go.Proofs.YtipbefckimdkkaaGreat.Q
abbrev law36_alive : Nat := 18
def law36_alive_c : MFn := ⟨46,(.seq (r [o 0 (.mv (.c (.bool false)))] []) (.seq (r [o 10 (.call 59 [(i 3)]),o 11 (.call 59 [(i 2)]),o 12 (.call 42 []),o 13 (.call 14 [(.t 10),(.t 11),(.t 12)]),o 9 (.mv (.t 13)),o 14 (.ext (.t 9) 0),o 15 (.ext (.t 9) 1),o 1 (.alloc zR),z (.st 3 (.t 1) (.t 14)),o 2 (.mv (.t 15))] [1,2]) (.seq (r [o 17 (.call 59 [(i 3)]),o 18 (.call 59 [(i 2)]),o 19 (.call 20 [(.t 17),(.t 18)]),o 16 (.mv (.t 19)),o 20 (.ext (.t 16) 0),o 21 (.ext (.t 16) 1),o 3 (.alloc zR),z (.st 3 (.t 3) (.t 20)),o 4 (.mv (.t 21))] [1,2,3,4]) (.seq (r [o 23 (.call 60 [(i 1),(i 4)]),o 22 (.mv (.t 23)),o 24 (.ext (.t 22) 0),o 25 (.ext (.t 22) 1),o 5 (.alloc zR),z (.st 3 (.t 5) (.t 24)),o 6 (.mv (.t 25))] [1,2,3,4,5]) (.seq (r [o 27 (.call 60 [(i 3),(i 2)]),o 26 (.mv (.t 27)),o 28 (.ext (.t 26) 0),o 29 (.ext (.t 26) 1),o 7 (.alloc zR),z (.st 3 (.t 7) (.t 28)),o 8 (.mv (.t 29))] [1,2,3,4,5,7]) (.seq (r [o 30 (.mv (.t 2)),o 31 (.bin .eql (.t 30) (i 0)),o 32 (.mv (.t 31)),y 33 32 (.mv (.t 4)),y 34 32 (.bin .eql (.t 33) (i 0)),o 35 (.pick (.t 32) (.t 34) (.c (.bool false))),o 36 (.mv (.t 35)),y 37 36 (.ld (some 3) (.t 1)),y 38 36 (.ld (some 3) (.t 5)),y 39 36 (.call 24 [(.t 37),(.t 38)]),o 40 (.pick (.t 36) (.t 39) (.c (.bool false))),o 41 (.mv (.t 40)),y 42 41 (.ld (some 3) (.t 3)),y 43 41 (.ld (some 3) (.t 7)),y 44 41 (.call 24 [(.t 42),(.t 43)]),o 45 (.pick (.t 41) (.t 44) (.c (.bool false))),o 0 (.mv (.t 45))] [0]) .ret)))))),[.t 0]⟩
theorem law36_alive_ok : cFn Tryz.prog (kps [[],[1,2],[1,2,3,4],[1,2,3,4,5],[1,2,3,4,5,7],[0]]) [] 18 = some law36_alive_c := by kernel_rfl
abbrev privacy_Rate : Nat := 20
def privacy_Rate_c : MFn := ⟨28,(.seq (r [o 4 (.alloc zR),o 5 (.mv (i 0))] [0,1,4]) (.seq (.seq (r [o 8 (.mv (.t 0)),o 9 (.mv (.t 1)),o 10 (.call 50 [(.t 8),(.t 9)]),o 11 (.un .not (.t 10))] [0,1,4,11]) (.cond (.t 11) (.seq (r [o 12 (.build zR []),z (.st 3 (.t 4) (.t 12)),o 5 (.mv (i 1))] [4,5]) .ret) .skip)) (.seq (r [o 14 (.mv (.t 0)),o 15 (.mv (.t 1)),o 16 (.call 62 [(.t 14),(.t 15)]),o 13 (.mv (.t 16)),o 17 (.ext (.t 13) 0),o 18 (.ext (.t 13) 1),o 6 (.mv (.t 17)),o 7 (.mv (.t 18))] [4,6,7]) (.seq (.seq (r [o 19 (.mv (.t 7)),o 20 (.un .not (.t 19))] [4,6,20]) (.cond (.t 20) (.seq (r [o 21 (.build zR []),z (.st 3 (.t 4) (.t 21)),o 5 (.mv (i 3))] [4,5]) .ret) .skip)) (.seq (r [o 22 (.mv (.t 6)),o 23 (.mv (.t 6)),o 24 (.lenS (.t 23)),o 25 (.bin .sub (.t 24) (i 1)),o 26 (.ixA 3 (.t 22) (.t 25)),o 27 (.ld (some 3) (.t 26)),z (.st 3 (.t 4) (.t 27)),o 5 (.mv (i 0))] [4,5]) .ret))))),[.cell 4 (some 3),.t 5]⟩
theorem privacy_Rate_ok : cFn Tryz.prog (kps [[0,1,4],[0,1,4,11],[4,5],[4,6,7],[4,6,20],[4,5],[4,5]]) [] 20 = some privacy_Rate_c := by kernel_rfl
abbrev law36_coin : Nat := 59
def law36_coin_c : MFn := ⟨25,(.seq (r [o 2 (.mv (.c .nils))] [0]) (.seq (r [o 8 (.mv (.t 0)),o 9 (.call 60 [(.t 8),(i 4)]),o 7 (.mv (.t 9)),o 10 (.ext (.t 7) 0),o 11 (.ext (.t 7) 1),o 3 (.alloc zR),z (.st 3 (.t 3) (.t 10)),o 4 (.mv (.t 11))] [0,3]) (.seq (r [o 13 (.mv (.t 0)),o 14 (.bin .sub (i 4) (.t 13)),o 15 (.call 60 [(.t 14),(i 4)]),o 12 (.mv (.t 15)),o 16 (.ext (.t 12) 0),o 17 (.ext (.t 12) 1),o 5 (.alloc zR),z (.st 3 (.t 5) (.t 16)),o 6 (.mv (.t 17))] [3,5]) (.seq (r [o 18 (.build zV [(0,1,(i 1))]),o 19 (.ld (some 3) (.t 5)),o 20 (.build zP [(0,3,(.t 18)),(3,3,(.t 19))]),o 21 (.build zV [(0,1,(i 1)),(1,1,(i 1))]),o 22 (.ld (some 3) (.t 3)),o 23 (.build zP [(0,3,(.t 21)),(3,3,(.t 22))]),o 24 (.buildSl 6 2 zP [(0,(.t 20)),(1,(.t 23))]),o 2 (.mv (.t 24))] [2]) .ret)))),[.t 2]⟩
theorem law36_coin_ok : cFn Tryz.prog (kps [[0],[0,3],[3,5],[2]]) [] 59 = some law36_coin_c := by kernel_rfl
abbrev ref02_Make : Nat := 60
def ref02_Make_c : MFn := ⟨28,(.seq (r [o 4 (.alloc zR),o 5 (.mv (i 0))] [0,1,4]) (.seq (r [o 11 (.mv (.t 0)),o 12 (.call 102 [(.t 11)]),o 10 (.mv (.t 12)),o 13 (.ext (.t 10) 0),o 14 (.ext (.t 10) 1),o 6 (.mv (.t 13)),o 7 (.mv (.t 14))] [1,4,6,7]) (.seq (r [o 16 (.mv (.t 1)),o 17 (.call 102 [(.t 16)]),o 15 (.mv (.t 17)),o 18 (.ext (.t 15) 0),o 19 (.ext (.t 15) 1),o 8 (.mv (.t 18)),o 9 (.mv (.t 19))] [4,6,7,8,9]) (.seq (r [o 20 (.mv (.t 7)),o 21 (.mv (.t 9)),o 22 (.binB .neq (.t 20) (.t 21)),o 23 (.mv (.t 6)),o 24 (.mv (.t 8)),o 25 (.call 54 [(.t 22),(.t 23),(.t 24)]),o 26 (.ext (.t 25) 0),o 27 (.ext (.t 25) 1),z (.st 3 (.t 4) (.t 26)),o 5 (.mv (.t 27))] [4,5]) .ret)))),[.cell 4 (some 3),.t 5]⟩
theorem ref02_Make_ok : cFn Tryz.prog (kps [[0,1,4],[1,4,6,7],[4,6,7,8,9],[4,5]]) [] 60 = some ref02_Make_c := by kernel_rfl
abbrev privacy_rates : Nat := 62
def privacy_rates_c : MFn := ⟨46,(.seq (r [o 4 (.mv (.c .nils)),o 5 (.mv (.c (.bool false)))] [0,1]) (.seq (r [o 12 (.call 97 []),o 13 (.buildSl 3 1 zR [(0,(.t 12))]),o 6 (.mv (.t 13)),o 7 (.mv (.c (.bool true)))] [0,1,6,7]) (.seq (.seq (r [o 14 (.mv (.t 0)),o 15 (.lenS (.t 14)),o 16 (.mv (i 0))] [1,6,7,14,15,16]) (.block 0 (.loop (.seq (r [o 17 (.bin .lss (.t 16) (.t 15))] [1,6,7,14,15,16,17]) (.seq (.cond (.t 17) .skip (.exit 0)) (.seq (.block 1 (.seq (r [o 18 (.ixA 6 (.t 14) (.t 16)),o 19 (.ld (some 6) (.t 18)),o 9 (.alloc zP),z (.st 6 (.t 9) (.t 19))] [1,6,7,9,14,15,16]) (.seq (r [o 21 (.fA 3 (.t 9)),o 22 (.ld (some 3) (.t 21)),o 23 (.mv (.t 1)),o 24 (.fA 0 (.t 9)),o 25 (.ld (some 3) (.t 24)),o 26 (.callF 103 [(.t 23),(.t 25)]),o 27 (.callF 76 [(.t 22),(.t 26)]),o 20 (.mv (.t 27)),o 28 (.ext (.t 20) 0),o 29 (.ext (.t 20) 1),o 10 (.alloc zR),z (.st 3 (.t 10) (.t 28)),o 11 (.mv (.t 29))] [1,6,7,10,11,14,15,16]) (.seq (.seq (r [o 30 (.mv (.t 11)),o 31 (.bin .neq (.t 30) (i 0))] [1,6,7,10,14,15,16,31]) (.cond (.t 31) (.seq (r [o 7 (.mv (.c (.bool false)))] [1,6,7,14,15,16]) (.exit 1)) .skip)) (.seq (r [o 32 (.ld (some 3) (.t 10)),o 33 (.callF 97 []),o 34 (.callF 74 [(.t 32),(.t 33)]),o 35 (.bin .gtr (.t 34) (i 0))] [1,6,7,10,14,15,16,35]) (.cond (.t 35) (r [o 36 (.mv (.t 6)),o 37 (.ld (some 3) (.t 10)),o 38 (.buildSl 3 1 zR [(0,(.t 37))]),o 39 (.app 3 56 (.t 36) (.t 38)),o 6 (.mv (.t 39))] [1,6,7,14,15,16]) .skip)))))) (r [o 40 (.bin .add (.t 16) (i 1)),o 16 (.mv (.t 40))] [1,6,7,14,15,16]))))))) (.seq (r [o 41 (.mv (.t 6)),o 42 (.call 104 [(.t 41),(.c (.clo 74 []))])] [6,7]) (.seq (r [o 43 (.mv (.t 6)),o 44 (.call 105 [(.t 43),(.c (.clo 106 []))]),o 45 (.mv (.t 7)),o 4 (.mv (.t 44)),o 5 (.mv (.t 45))] [4,5]) .ret))))),[.t 4,.t 5]⟩
theorem privacy_rates_ok : cFn Tryz.prog (kps [[0,1],[0,1,6,7],[1,6,7,14,15,16],[1,6,7,14,15,16,17],[1,6,7,9,14,15,16],[1,6,7,10,11,14,15,16],[1,6,7,10,14,15,16,31],[1,6,7,14,15,16],[1,6,7,10,14,15,16,35],[1,6,7,14,15,16],[1,6,7,14,15,16],[6,7],[4,5]]) [] 62 = some privacy_rates_c := by kernel_rfl
abbrev ratio_Div : Nat := 76
def ratio_Div_c : MFn := ⟨26,(.seq (r [o 2 (.box (.t 0)),o 3 (.box (.t 1)),o 4 (.alloc zR),o 5 (.mv (i 0))] [2,3,4]) (.seq (.seq (r [o 6 (.ld (some 3) (.t 3)),o 7 (.call 108 [(.t 6)]),o 8 (.bin .eql (.t 7) (i 0))] [2,3,4,8]) (.cond (.t 8) (.seq (r [o 9 (.build zR []),z (.st 3 (.t 4) (.t 9)),o 5 (.mv (i 31))] [4,5]) .ret) .skip)) (.seq (r [o 10 (.fA 0 (.t 2)),o 11 (.ld none (.t 10)),o 12 (.fA 0 (.t 3)),o 13 (.ld none (.t 12)),o 14 (.binB .neq (.t 11) (.t 13)),o 15 (.fA 1 (.t 2)),o 16 (.ld none (.t 15)),o 17 (.fA 2 (.t 3)),o 18 (.ld none (.t 17)),o 19 (.callF 110 [(.t 16),(.t 18)]),o 20 (.fA 2 (.t 2)),o 21 (.ld none (.t 20)),o 22 (.fA 1 (.t 3)),o 23 (.ld none (.t 22)),o 24 (.callF 110 [(.t 21),(.t 23)]),o 25 (.callF 112 [(.t 14),(.t 19),(.t 24)]),z (.st 3 (.t 4) (.t 25)),o 5 (.mv (i 0))] [4,5]) .ret))),[.cell 4 (some 3),.t 5]⟩
theorem ratio_Div_ok : cFn Tryz.prog (kps [[2,3,4],[2,3,4,8],[4,5],[4,5]]) [] 76 = some ratio_Div_c := by kernel_rfl
abbrev ref02_size : Nat := 102
def ref02_size_c : MFn := ⟨15,(.seq (r [o 2 (.mv (.c .nils)),o 3 (.mv (.c (.bool false)))] [0]) (.seq (.seq (r [o 4 (.mv (.t 0)),o 5 (.bin .lss (.t 4) (i 0))] [0,5]) (.cond (.t 5) (.seq (r [o 6 (.mv (.t 0)),o 7 (.bin .add (.t 6) (i 1)),o 8 (.un .neg (.t 7)),o 9 (.cvt .u64 (.t 8)),o 10 (.bin .add (.t 9) (.c (.int .u64 1))),o 11 (.call 68 [(.t 10)]),o 2 (.mv (.t 11)),o 3 (.mv (.c (.bool true)))] [2,3]) .ret) .skip)) (.seq (r [o 12 (.mv (.t 0)),o 13 (.cvt .u64 (.t 12)),o 14 (.call 68 [(.t 13)]),o 2 (.mv (.t 14)),o 3 (.mv (.c (.bool false)))] [2,3]) .ret))),[.t 2,.t 3]⟩
theorem ref02_size_ok : cFn Tryz.prog (kps [[0],[0,5],[2,3],[2,3]]) [] 102 = some ref02_size_c := by kernel_rfl
abbrev slices_SortFunc_Ratio_Ratio : Nat := 104
def slices_SortFunc_Ratio_Ratio_c : MFn := ⟨14,(.seq (r [o 5 (.mv (.t 0)),o 6 (.lenS (.t 5)),o 4 (.mv (.t 6))] [0,1,4]) (r [o 7 (.mv (.t 0)),o 8 (.mv (.t 4)),o 9 (.mv (.t 4)),o 10 (.cvt .u64 (.t 9)),o 11 (.call 138 [(.t 10)]),o 12 (.mv (.t 1)),o 13 (.call 137 [(.t 7),(i 0),(.t 8),(.t 11),(.t 12)])] [])),[]⟩
theorem slices_SortFunc_Ratio_Ratio_ok : cFn Tryz.prog (kps [[0,1,4],[]]) [] 104 = some slices_SortFunc_Ratio_Ratio_c := by kernel_rfl
abbrev slices_CompactFunc_Ratio_Ratio : Nat := 105
def slices_CompactFunc_Ratio_Ratio_c : MFn := ⟨66,(.seq (r [o 4 (.mv (.c .nils))] [0,1]) (.seq (.seq (r [o 8 (.mv (.t 0)),o 9 (.lenS (.t 8)),o 10 (.bin .lss (.t 9) (i 2))] [0,1,10]) (.cond (.t 10) (.seq (r [o 11 (.mv (.t 0)),o 4 (.mv (.t 11))] [4]) .ret) .skip)) (.seq (.seq (r [o 5 (.mv (i 1))] [0,1,5]) (.block 0 (.loop (.seq (.seq (r [o 12 (.mv (.t 5)),o 13 (.mv (.t 0)),o 14 (.lenS (.t 13)),o 15 (.bin .lss (.t 12) (.t 14))] [0,1,5,15]) (.cond (.t 15) .skip (.exit 0))) (.seq (.block 1 (.seq (r [o 18 (.mv (.t 1)),o 19 (.mv (.t 0)),o 20 (.mv (.t 5)),o 21 (.ixA 3 (.t 19) (.t 20)),o 22 (.ld (some 3) (.t 21)),o 23 (.mv (.t 0)),o 24 (.mv (.t 5)),o 25 (.bin .sub (.t 24) (i 1)),o 26 (.ixA 3 (.t 23) (.t 25)),o 27 (.ld (some 3) (.t 26)),o 28 (.callVF (.t 18) [(.t 22),(.t 27)])] [0,1,5,28]) (.cond (.t 28) (.seq (r [o 29 (.mv (.t 0)),o 30 (.mv (.t 5)),o 31 (.slc 3 (.t 29) (some (.t 30)) none none),o 6 (.mv (.t 31))] [0,1,5,6]) (.seq (.seq (r [o 7 (.mv (i 1))] [0,1,5,6,7]) (.block 2 (.loop (.seq (.seq (r [o 32 (.mv (.t 7)),o 33 (.mv (.t 6)),o 34 (.lenS (.t 33)),o 35 (.bin .lss (.t 32) (.t 34))] [0,1,5,6,7,35]) (.cond (.t 35) .skip (.exit 2))) (.seq (.block 3 (.seq (r [o 38 (.mv (.t 1)),o 39 (.mv (.t 6)),o 40 (.mv (.t 7)),o 41 (.ixA 3 (.t 39) (.t 40)),o 42 (.ld (some 3) (.t 41)),o 43 (.mv (.t 6)),o 44 (.mv (.t 7)),o 45 (.bin .sub (.t 44) (i 1)),o 46 (.ixA 3 (.t 43) (.t 45)),o 47 (.ld (some 3) (.t 46)),o 48 (.callVF (.t 38) [(.t 42),(.t 47)]),o 49 (.un .not (.t 48))] [0,1,5,6,7,49]) (.cond (.t 49) (.seq (r [o 50 (.mv (.t 0)),o 51 (.mv (.t 5)),o 52 (.mv (.t 6)),o 53 (.mv (.t 7)),o 54 (.ixA 3 (.t 52) (.t 53)),o 55 (.ld (some 3) (.t 54)),o 56 (.ixA 3 (.t 50) (.t 51)),z (.st 3 (.t 56) (.t 55))] [0,1,5,6,7]) (r [o 57 (.mv (.t 5)),o 58 (.bin .add (.t 57) (i 1)),o 5 (.mv (.t 58))] [0,1,5,6,7])) .skip))) (r [o 36 (.mv (.t 7)),o 37 (.bin .add (.t 36) (i 1)),o 7 (.mv (.t 37))] [0,1,5,6,7])))))) (.seq (r [o 59 (.mv (.t 0)),o 60 (.mv (.t 5)),o 61 (.slc 3 (.t 59) (some (.t 60)) none none),z (.clr 3 zR (.t 61))] [0,5]) (.seq (r [o 62 (.mv (.t 0)),o 63 (.mv (.t 5)),o 64 (.slc 3 (.t 62) none (some (.t 63)) none),o 4 (.mv (.t 64))] [4]) .ret)))) .skip))) (r [o 16 (.mv (.t 5)),o 17 (.bin .add (.t 16) (i 1)),o 5 (.mv (.t 17))] [0,1,5])))))) (.seq (r [o 65 (.mv (.t 0)),o 4 (.mv (.t 65))] [4]) .ret)))),[.t 4]⟩
theorem slices_CompactFunc_Ratio_Ratio_ok : cFn Tryz.prog (kps [[0,1],[0,1,10],[4],[0,1,5],[0,1,5,15],[0,1,5],[0,1,5,28],[0,1,5,6],[0,1,5,6,7],[0,1,5,6,7,35],[0,1,5,6,7],[0,1,5,6,7,49],[0,1,5,6,7],[0,1,5,6,7],[0,5],[4],[4]]) [] 105 = some slices_CompactFunc_Ratio_Ratio_c := by kernel_rfl
abbrev slices_pdqsortCmpFunc_Ratio : Nat := 137
def slices_pdqsortCmpFunc_Ratio_c : MFn := ⟨148,(.seq (r [o 10 (.mv (.c (.bool true)))] [0,1,2,3,4,10]) (.seq (r [o 11 (.mv (.c (.bool true)))] [0,1,2,3,4,10,11]) (.block 0 (.loop (.block 1 (.seq (r [o 21 (.mv (.t 2)),o 22 (.mv (.t 1)),o 23 (.bin .sub (.t 21) (.t 22)),o 12 (.mv (.t 23))] [0,1,2,3,4,10,11,12]) (.seq (.seq (r [o 24 (.mv (.t 12)),o 25 (.bin .leq (.t 24) (i 12))] [0,1,2,3,4,10,11,12,25]) (.cond (.t 25) (.seq (r [o 26 (.mv (.t 0)),o 27 (.mv (.t 1)),o 28 (.mv (.t 2)),o 29 (.mv (.t 4)),o 30 (.call 152 [(.t 26),(.t 27),(.t 28),(.t 29)])] []) .ret) .skip)) (.seq (.seq (r [o 31 (.mv (.t 3)),o 32 (.bin .eql (.t 31) (i 0))] [0,1,2,3,4,10,11,12,32]) (.cond (.t 32) (.seq (r [o 33 (.mv (.t 0)),o 34 (.mv (.t 1)),o 35 (.mv (.t 2)),o 36 (.mv (.t 4)),o 37 (.call 153 [(.t 33),(.t 34),(.t 35),(.t 36)])] []) .ret) .skip)) (.seq (.seq (r [o 38 (.mv (.t 10)),o 39 (.un .not (.t 38))] [0,1,2,3,4,10,11,12,39]) (.cond (.t 39) (.seq (r [o 40 (.mv (.t 0)),o 41 (.mv (.t 1)),o 42 (.mv (.t 2)),o 43 (.mv (.t 4)),o 44 (.call 154 [(.t 40),(.t 41),(.t 42),(.t 43)])] [0,1,2,3,4,10,11,12]) (r [o 45 (.mv (.t 3)),o 46 (.bin .sub (.t 45) (i 1)),o 3 (.mv (.t 46))] [0,1,2,3,4,10,11,12])) .skip)) (.seq (r [o 48 (.mv (.t 0)),o 49 (.mv (.t 1)),o 50 (.mv (.t 2)),o 51 (.mv (.t 4)),o 52 (.call 155 [(.t 48),(.t 49),(.t 50),(.t 51)]),o 47 (.mv (.t 52)),o 53 (.ext (.t 47) 0),o 54 (.ext (.t 47) 1),o 13 (.mv (.t 53)),o 14 (.mv (.t 54))] [0,1,2,3,4,10,11,12,13,14]) (.seq (.seq (r [o 55 (.mv (.t 14)),o 56 (.bin .eql (.t 55) (i 2))] [0,1,2,3,4,10,11,12,13,14,56]) (.cond (.t 56) (.seq (r [o 57 (.mv (.t 0)),o 58 (.mv (.t 1)),o 59 (.mv (.t 2)),o 60 (.mv (.t 4)),o 61 (.call 156 [(.t 57),(.t 58),(.t 59),(.t 60)])] [0,1,2,3,4,10,11,12,13]) (.seq (r [o 62 (.mv (.t 2)),o 63 (.bin .sub (.t 62) (i 1)),o 64 (.mv (.t 13)),o 65 (.mv (.t 1)),o 66 (.bin .sub (.t 64) (.t 65)),o 67 (.bin .sub (.t 63) (.t 66)),o 13 (.mv (.t 67))] [0,1,2,3,4,10,11,12,13]) (r [o 14 (.mv (i 1))] [0,1,2,3,4,10,11,12,13,14]))) .skip)) (.seq (.seq (r [o 68 (.mv (.t 10)),o 69 (.mv (.t 68)),y 70 69 (.mv (.t 11)),o 71 (.pick (.t 69) (.t 70) (.c (.bool false))),o 72 (.mv (.t 71)),y 73 72 (.mv (.t 14)),y 74 72 (.bin .eql (.t 73) (i 1)),o 75 (.pick (.t 72) (.t 74) (.c (.bool false)))] [0,1,2,3,4,10,11,12,13,75]) (.cond (.t 75) (.seq (r [o 76 (.mv (.t 0)),o 77 (.mv (.t 1)),o 78 (.mv (.t 2)),o 79 (.mv (.t 4)),o 80 (.call 157 [(.t 76),(.t 77),(.t 78),(.t 79)])] [0,1,2,3,4,10,11,12,13,80]) (.cond (.t 80) .ret .skip)) .skip)) (.seq (.seq (r [o 81 (.mv (.t 1)),o 82 (.bin .gtr (.t 81) (i 0)),o 83 (.mv (.t 82)),y 84 83 (.mv (.t 4)),y 85 83 (.mv (.t 0)),y 86 83 (.mv (.t 1)),y 87 83 (.bin .sub (.t 86) (i 1)),y 88 83 (.ixA 3 (.t 85) (.t 87)),y 89 83 (.ld (some 3) (.t 88)),y 90 83 (.mv (.t 0)),y 91 83 (.mv (.t 13)),y 92 83 (.ixA 3 (.t 90) (.t 91)),y 93 83 (.ld (some 3) (.t 92)),y 94 83 (.callVF (.t 84) [(.t 89),(.t 93)]),y 95 83 (.bin .lss (.t 94) (i 0)),y 96 83 (.un .not (.t 95)),o 97 (.pick (.t 83) (.t 96) (.c (.bool false)))] [0,1,2,3,4,10,11,12,13,97]) (.cond (.t 97) (.seq (r [o 98 (.mv (.t 0)),o 99 (.mv (.t 1)),o 100 (.mv (.t 2)),o 101 (.mv (.t 13)),o 102 (.mv (.t 4)),o 103 (.call 158 [(.t 98),(.t 99),(.t 100),(.t 101),(.t 102)]),o 15 (.mv (.t 103))] [0,2,3,4,10,11,15]) (.seq (r [o 104 (.mv (.t 15)),o 1 (.mv (.t 104))] [0,1,2,3,4,10,11]) (.exit 1))) .skip)) (.seq (r [o 106 (.mv (.t 0)),o 107 (.mv (.t 1)),o 108 (.mv (.t 2)),o 109 (.mv (.t 13)),o 110 (.mv (.t 4)),o 111 (.call 159 [(.t 106),(.t 107),(.t 108),(.t 109),(.t 110)]),o 105 (.mv (.t 111)),o 112 (.ext (.t 105) 0),o 113 (.ext (.t 105) 1),o 16 (.mv (.t 112)),o 17 (.mv (.t 113))] [0,1,2,3,4,12,16,17]) (.seq (r [o 114 (.mv (.t 17)),o 11 (.mv (.t 114))] [0,1,2,3,4,11,12,16]) (.seq (r [o 115 (.mv (.t 16)),o 116 (.mv (.t 1)),o 117 (.bin .sub (.t 115) (.t 116)),o 118 (.mv (.t 2)),o 119 (.mv (.t 16)),o 120 (.bin .sub (.t 118) (.t 119)),o 18 (.mv (.t 117)),o 19 (.mv (.t 120))] [0,1,2,3,4,11,12,16,18,19]) (.seq (r [o 121 (.mv (.t 12)),o 122 (.bin .quo (.t 121) (i 8)),o 20 (.mv (.t 122))] [0,1,2,3,4,11,16,18,19,20]) (.seq (r [o 123 (.mv (.t 18)),o 124 (.mv (.t 19)),o 125 (.bin .lss (.t 123) (.t 124))] [0,1,2,3,4,11,16,18,19,20,125]) (.cond (.t 125) (.seq (r [o 126 (.mv (.t 18)),o 127 (.mv (.t 20)),o 128 (.bin .geq (.t 126) (.t 127)),o 10 (.mv (.t 128))] [0,1,2,3,4,10,11,16]) (.seq (r [o 129 (.mv (.t 0)),o 130 (.mv (.t 1)),o 131 (.mv (.t 16)),o 132 (.mv (.t 3)),o 133 (.mv (.t 4)),o 134 (.call 137 [(.t 129),(.t 130),(.t 131),(.t 132),(.t 133)])] [0,2,3,4,10,11,16]) (r [o 135 (.mv (.t 16)),o 136 (.bin .add (.t 135) (i 1)),o 1 (.mv (.t 136))] [0,1,2,3,4,10,11]))) (.seq (r [o 137 (.mv (.t 19)),o 138 (.mv (.t 20)),o 139 (.bin .geq (.t 137) (.t 138)),o 10 (.mv (.t 139))] [0,1,2,3,4,10,11,16]) (.seq (r [o 140 (.mv (.t 0)),o 141 (.mv (.t 16)),o 142 (.bin .add (.t 141) (i 1)),o 143 (.mv (.t 2)),o 144 (.mv (.t 3)),o 145 (.mv (.t 4)),o 146 (.call 137 [(.t 140),(.t 142),(.t 143),(.t 144),(.t 145)])] [0,1,3,4,10,11,16]) (r [o 147 (.mv (.t 16)),o 2 (.mv (.t 147))] [0,1,2,3,4,10,11])))))))))))))))))))))),[]⟩
theorem slices_pdqsortCmpFunc_Ratio_ok : cFn Tryz.prog (kps [[0,1,2,3,4,10],[0,1,2,3,4,10,11],[0,1,2,3,4,10,11,12],[0,1,2,3,4,10,11,12,25],[],[0,1,2,3,4,10,11,12,32],[],[0,1,2,3,4,10,11,12,39],[0,1,2,3,4,10,11,12],[0,1,2,3,4,10,11,12],[0,1,2,3,4,10,11,12,13,14],[0,1,2,3,4,10,11,12,13,14,56],[0,1,2,3,4,10,11,12,13],[0,1,2,3,4,10,11,12,13],[0,1,2,3,4,10,11,12,13,14],[0,1,2,3,4,10,11,12,13,75],[0,1,2,3,4,10,11,12,13,80],[0,1,2,3,4,10,11,12,13,97],[0,2,3,4,10,11,15],[0,1,2,3,4,10,11],[0,1,2,3,4,12,16,17],[0,1,2,3,4,11,12,16],[0,1,2,3,4,11,12,16,18,19],[0,1,2,3,4,11,16,18,19,20],[0,1,2,3,4,11,16,18,19,20,125],[0,1,2,3,4,10,11,16],[0,2,3,4,10,11,16],[0,1,2,3,4,10,11],[0,1,2,3,4,10,11,16],[0,1,3,4,10,11,16],[0,1,2,3,4,10,11]]) [] 137 = some slices_pdqsortCmpFunc_Ratio_c := by kernel_rfl
abbrev math_bits_Len : Nat := 138
def math_bits_Len_c : MFn := ⟨8,(.seq (r [o 2 (.mv (i 0))] [0]) (.seq (.cond (.c (.bool false)) (.seq (r [o 3 (.mv (.t 0)),o 4 (.cvt .u32 (.t 3)),o 5 (.call 160 [(.t 4)]),o 2 (.mv (.t 5))] [2]) .ret) .skip) (.seq (r [o 6 (.mv (.t 0)),o 7 (.call 161 [(.t 6)]),o 2 (.mv (.t 7))] [2]) .ret))),[.t 2]⟩
theorem math_bits_Len_ok : cFn Tryz.prog (kps [[0],[2],[2]]) [] 138 = some math_bits_Len_c := by kernel_rfl
abbrev slices_insertionSortCmpFunc_Ratio : Nat := 152
def slices_insertionSortCmpFunc_Ratio_c : MFn := ⟨53,(.seq (r [o 10 (.mv (.t 1)),o 11 (.bin .add (.t 10) (i 1)),o 8 (.mv (.t 11))] [0,1,2,3,8]) (.block 0 (.loop (.seq (.seq (r [o 12 (.mv (.t 8)),o 13 (.mv (.t 2)),o 14 (.bin .lss (.t 12) (.t 13))] [0,1,2,3,8,14]) (.cond (.t 14) .skip (.exit 0))) (.seq (.block 1 (.seq (r [o 17 (.mv (.t 8)),o 9 (.mv (.t 17))] [0,1,2,3,8,9]) (.block 2 (.loop (.seq (.seq (r [o 18 (.mv (.t 9)),o 19 (.mv (.t 1)),o 20 (.bin .gtr (.t 18) (.t 19)),o 21 (.mv (.t 20)),y 22 21 (.mv (.t 3)),y 23 21 (.mv (.t 0)),y 24 21 (.mv (.t 9)),y 25 21 (.ixA 3 (.t 23) (.t 24)),y 26 21 (.ld (some 3) (.t 25)),y 27 21 (.mv (.t 0)),y 28 21 (.mv (.t 9)),y 29 21 (.bin .sub (.t 28) (i 1)),y 30 21 (.ixA 3 (.t 27) (.t 29)),y 31 21 (.ld (some 3) (.t 30)),y 32 21 (.callVF (.t 22) [(.t 26),(.t 31)]),y 33 21 (.bin .lss (.t 32) (i 0)),o 34 (.pick (.t 21) (.t 33) (.c (.bool false)))] [0,1,2,3,8,9,34]) (.cond (.t 34) .skip (.exit 2))) (.seq (.block 3 (r [o 37 (.mv (.t 0)),o 38 (.mv (.t 9)),o 39 (.mv (.t 0)),o 40 (.mv (.t 9)),o 41 (.bin .sub (.t 40) (i 1)),o 42 (.mv (.t 0)),o 43 (.mv (.t 9)),o 44 (.bin .sub (.t 43) (i 1)),o 45 (.ixA 3 (.t 42) (.t 44)),o 46 (.ld (some 3) (.t 45)),o 47 (.mv (.t 0)),o 48 (.mv (.t 9)),o 49 (.ixA 3 (.t 47) (.t 48)),o 50 (.ld (some 3) (.t 49)),o 51 (.ixA 3 (.t 37) (.t 38)),z (.st 3 (.t 51) (.t 46)),o 52 (.ixA 3 (.t 39) (.t 41)),z (.st 3 (.t 52) (.t 50))] [0,1,2,3,8,9])) (r [o 35 (.mv (.t 9)),o 36 (.bin .sub (.t 35) (i 1)),o 9 (.mv (.t 36))] [0,1,2,3,8,9]))))))) (r [o 15 (.mv (.t 8)),o 16 (.bin .add (.t 15) (i 1)),o 8 (.mv (.t 16))] [0,1,2,3,8])))))),[]⟩
theorem slices_insertionSortCmpFunc_Ratio_ok : cFn Tryz.prog (kps [[0,1,2,3,8],[0,1,2,3,8,14],[0,1,2,3,8],[0,1,2,3,8,9],[0,1,2,3,8,9,34],[0,1,2,3,8,9],[0,1,2,3,8,9]]) [] 152 = some slices_insertionSortCmpFunc_Ratio_c := by kernel_rfl
abbrev math_bits_Len64 : Nat := 161
def math_bits_Len64_c : MFn := ⟨25,(.seq (r [o 2 (.mv (i 0))] [0,2]) (.seq (.seq (r [o 3 (.mv (.t 0)),o 4 (.bin .geq (.t 3) (.c (.int .u64 4294967296)))] [0,2,4]) (.cond (.t 4) (.seq (r [o 5 (.mv (.t 0)),o 6 (.bin .shr (.t 5) (.c (.int .u64 32))),o 0 (.mv (.t 6))] [0]) (r [o 2 (.mv (i 32))] [0,2])) .skip)) (.seq (.seq (r [o 7 (.mv (.t 0)),o 8 (.bin .geq (.t 7) (.c (.int .u64 65536)))] [0,2,8]) (.cond (.t 8) (.seq (r [o 9 (.mv (.t 0)),o 10 (.bin .shr (.t 9) (.c (.int .u64 16))),o 0 (.mv (.t 10))] [0,2]) (r [o 11 (.mv (.t 2)),o 12 (.bin .add (.t 11) (i 16)),o 2 (.mv (.t 12))] [0,2])) .skip)) (.seq (.seq (r [o 13 (.mv (.t 0)),o 14 (.bin .geq (.t 13) (.c (.int .u64 256)))] [0,2,14]) (.cond (.t 14) (.seq (r [o 15 (.mv (.t 0)),o 16 (.bin .shr (.t 15) (.c (.int .u64 8))),o 0 (.mv (.t 16))] [0,2]) (r [o 17 (.mv (.t 2)),o 18 (.bin .add (.t 17) (i 8)),o 2 (.mv (.t 18))] [0,2])) .skip)) (.seq (r [o 19 (.mv (.t 2)),o 20 (.mv (.t 0)),o 21 (.cvt .u8 (.t 20)),o 22 (.ixS (.c (.str ⟨#[0,1,2,2,3,3,3,3,4,4,4,4,4,4,4,4,5,5,5,5,5,5,5,5,5,5,5,5,5,5,5,5,6,6,6,6,6,6,6,6,6,6,6,6,6,6,6,6,6,6,6,6,6,6,6,6,6,6,6,6,6,6,6,6,7,7,7,7,7,7,7,7,7,7,7,7,7,7,7,7,7,7,7,7,7,7,7,7,7,7,7,7,7,7,7,7,7,7,7,7,7,7,7,7,7,7,7,7,7,7,7,7,7,7,7,7,7,7,7,7,7,7,7,7,7,7,7,7,8,8,8,8,8,8,8,8,8,8,8,8,8,8,8,8,8,8,8,8,8,8,8,8,8,8,8,8,8,8,8,8,8,8,8,8,8,8,8,8,8,8,8,8,8,8,8,8,8,8,8,8,8,8,8,8,8,8,8,8,8,8,8,8,8,8,8,8,8,8,8,8,8,8,8,8,8,8,8,8,8,8,8,8,8,8,8,8,8,8,8,8,8,8,8,8,8,8,8,8,8,8,8,8,8,8,8,8,8,8,8,8,8,8,8,8,8,8,8,8,8,8,8,8,8,8,8,8]⟩)) (.t 21)),o 23 (.cvt .i64 (.t 22)),o 24 (.bin .add (.t 19) (.t 23)),o 2 (.mv (.t 24))] [2]) .ret))))),[.t 2]⟩
theorem math_bits_Len64_ok : cFn Tryz.prog (kps [[0,2],[0,2,4],[0],[0,2],[0,2,8],[0,2],[0,2],[0,2,14],[0,2],[0,2],[2]]) [] 161 = some math_bits_Len64_c := by kernel_rfl
abbrev slices_EqualFunc_Type_Value_Type_Value : Nat := 174
def slices_EqualFunc_Type_Value_Type_Value_c : MFn := ⟨32,(.seq (r [o 6 (.mv (.c (.bool false)))] [0,1,2]) (.seq (.seq (r [o 10 (.mv (.t 0)),o 11 (.lenS (.t 10)),o 12 (.mv (.t 1)),o 13 (.lenS (.t 12)),o 14 (.bin .neq (.t 11) (.t 13))] [0,1,2,14]) (.cond (.t 14) (.seq (r [o 6 (.mv (.c (.bool false)))] [6]) .ret) .skip)) (.seq (.seq (r [o 15 (.mv (.t 0)),o 16 (.lenS (.t 15)),o 17 (.mv (i 0))] [1,2,15,16,17]) (.block 0 (.loop (.seq (r [o 18 (.bin .lss (.t 17) (.t 16))] [1,2,15,16,17,18]) (.seq (.cond (.t 18) .skip (.exit 0)) (.seq (.block 1 (.seq (r [o 19 (.mv (.t 17)),o 20 (.ixA 2 (.t 15) (.t 17)),o 21 (.ld (some 2) (.t 20)),o 8 (.alloc [.int .i64 0,.nils]),o 7 (.mv (.t 19)),z (.st 2 (.t 8) (.t 21))] [1,2,7,8,15,16,17]) (.seq (r [o 22 (.mv (.t 1)),o 23 (.mv (.t 7)),o 24 (.ixA 3 (.t 22) (.t 23)),o 25 (.ld (some 3) (.t 24)),o 9 (.alloc zV),z (.st 3 (.t 9) (.t 25))] [1,2,8,9,15,16,17]) (.seq (r [o 26 (.mv (.t 2)),o 27 (.ld (some 2) (.t 8)),o 28 (.ld (some 3) (.t 9)),o 29 (.callV (.t 26) [(.t 27),(.t 28)]),o 30 (.un .not (.t 29))] [1,2,15,16,17,30]) (.cond (.t 30) (.seq (r [o 6 (.mv (.c (.bool false)))] [6]) .ret) .skip))))) (r [o 31 (.bin .add (.t 17) (i 1)),o 17 (.mv (.t 31))] [1,2,15,16,17]))))))) (.seq (r [o 6 (.mv (.c (.bool true)))] [6]) .ret)))),[.t 6]⟩
theorem slices_EqualFunc_Type_Value_Type_Value_ok : cFn Tryz.prog (kps [[0,1,2],[0,1,2,14],[6],[1,2,15,16,17],[1,2,15,16,17,18],[1,2,7,8,15,16,17],[1,2,8,9,15,16,17],[1,2,15,16,17,30],[6],[1,2,15,16,17],[6]]) [] 174 = some slices_EqualFunc_Type_Value_Type_Value_c := by kernel_rfl
abbrev slices_ContainsFunc_Value_Value : Nat := 175
def slices_ContainsFunc_Value_Value_c : MFn := ⟨9,(.seq (r [o 4 (.mv (.c (.bool false)))] [0,1]) (.seq (r [o 5 (.mv (.t 0)),o 6 (.mv (.t 1)),o 7 (.call 181 [(.t 5),(.t 6)]),o 8 (.bin .geq (.t 7) (i 0)),o 4 (.mv (.t 8))] [4]) .ret)),[.t 4]⟩
theorem slices_ContainsFunc_Value_Value_ok : cFn Tryz.prog (kps [[0,1],[4]]) [] 175 = some slices_ContainsFunc_Value_Value_c := by kernel_rfl
abbrev value_has_1 : Nat := 176
def value_has_1_c : MFn := ⟨11,(.seq (r [o 2 (.box (.t 0)),o 3 (.mv (.c (.bool false)))] [1,2]) (.seq (r [o 4 (.fA 1 (.t 1)),o 5 (.ld none (.t 4)),o 6 (.ixA 2 (.t 5) (i 0)),o 7 (.ld (some 2) (.t 6)),o 8 (.ld (some 3) (.t 2)),o 9 (.callF 165 [(.t 7),(.t 8)]),o 10 (.un .not (.t 9)),o 3 (.mv (.t 10))] [3]) .ret)),[.t 3]⟩
theorem value_has_1_ok : cFn Tryz.prog (kps [[1,2],[3]]) [] 176 = some value_has_1_c := by kernel_rfl
abbrev slices_IndexFunc_Value_Value : Nat := 181
def slices_IndexFunc_Value_Value_c : MFn := ⟨19,(.seq (r [o 4 (.mv (i 0))] [0,1]) (.seq (.seq (r [o 6 (.mv (.t 0)),o 7 (.lenS (.t 6)),o 8 (.mv (i 0))] [0,1,7,8]) (.block 0 (.loop (.seq (r [o 9 (.bin .lss (.t 8) (.t 7))] [0,1,7,8,9]) (.seq (.cond (.t 9) .skip (.exit 0)) (.seq (.block 1 (.seq (r [o 10 (.mv (.t 8)),o 5 (.mv (.t 10))] [0,1,5,7,8]) (.seq (r [o 11 (.mv (.t 1)),o 12 (.mv (.t 0)),o 13 (.mv (.t 5)),o 14 (.ixA 3 (.t 12) (.t 13)),o 15 (.ld (some 3) (.t 14)),o 16 (.callV (.t 11) [(.t 15)])] [0,1,5,7,8,16]) (.cond (.t 16) (.seq (r [o 17 (.mv (.t 5)),o 4 (.mv (.t 17))] [4]) .ret) .skip)))) (r [o 18 (.bin .add (.t 8) (i 1)),o 8 (.mv (.t 18))] [0,1,7,8]))))))) (.seq (r [o 4 (.mv (i (-1)))] [4]) .ret))),[.t 4]⟩
theorem slices_IndexFunc_Value_Value_ok : cFn Tryz.prog (kps [[0,1],[0,1,7,8],[0,1,7,8,9],[0,1,5,7,8],[0,1,5,7,8,16],[4],[0,1,7,8],[4]]) [] 181 = some slices_IndexFunc_Value_Value_c := by kernel_rfl
end Go.Proofs.YtipbefckimdkkaaGreat.F

namespace Go.Proofs.YtipbefckimdkkaaGreat
open Go Go.Proofs Go.Proofs.YtipbefckimdkkaaGreat.E
def TAliv6T (f : Nat) : Option MFn :=
 (match Nat.blt f 110 with
 | true =>
   (match Nat.blt f 68 with
   | true =>
     (match Nat.blt f 51 with
     | true =>
       (match Nat.blt f 24 with
       | true =>
         (match Nat.blt f 17 with
         | true =>
           (match Nat.blt f 16 with
           | true =>
             (match Nat.beq f 14 with | true => some F.privacy_Rest_c | false => none)
           | false =>
             (match Nat.beq f 16 with | true => some F.ref02_Compare_c | false => none))
         | false =>
           (match Nat.blt f 18 with
           | true =>
             (match Nat.beq f 17 with | true => some F.ref02_Add_c | false => none)
           | false =>
             (match Nat.blt f 20 with
             | true =>
               (match Nat.beq f 18 with | true => some F.law36_alive_c | false => none)
             | false =>
               (match Nat.beq f 20 with | true => some F.privacy_Rate_c | false => none))))
       | false =>
         (match Nat.blt f 42 with
         | true =>
           (match Nat.blt f 27 with
           | true =>
             (match Nat.beq f 24 with | true => some F.ref02_Same_c | false => none)
           | false =>
             (match Nat.blt f 28 with
             | true =>
               (match Nat.beq f 27 with | true => some F.ref02_Zero_c | false => none)
             | false =>
               (match Nat.beq f 28 with | true => some F.ref02_Sub_c | false => none)))
         | false =>
           (match Nat.blt f 44 with
           | true =>
             (match Nat.beq f 42 with | true => some F.ref02_One_c | false => none)
           | false =>
             (match Nat.blt f 50 with
             | true =>
               (match Nat.beq f 44 with | true => some F.ref02_Sign_c | false => none)
             | false =>
               (match Nat.beq f 50 with | true => some F.privacy_both_c | false => none)))))
     | false =>
       (match Nat.blt f 57 with
       | true =>
         (match Nat.blt f 54 with
         | true =>
           (match Nat.blt f 52 with
           | true =>
             (match Nat.beq f 51 with | true => some F.privacy_rated_c | false => none)
           | false =>
             (match Nat.blt f 53 with
             | true =>
               (match Nat.beq f 52 with | true => some F.privacy_rest_c | false => none)
             | false =>
               (match Nat.beq f 53 with | true => some F.ref02_valid_c | false => none)))
         | false =>
           (match Nat.blt f 55 with
           | true =>
             (match Nat.beq f 54 with | true => some F.ref02_Of_c | false => none)
           | false =>
             (match Nat.blt f 56 with
             | true =>
               (match Nat.beq f 55 with | true => some F.ref01_Mul_c | false => none)
             | false =>
               (match Nat.beq f 56 with | true => some F.ref01_Add_c | false => none))))
       | false =>
         (match Nat.blt f 60 with
         | true =>
           (match Nat.blt f 58 with
           | true =>
             (match Nat.beq f 57 with | true => some F.ref01_Compare_c | false => none)
           | false =>
             (match Nat.blt f 59 with
             | true =>
               (match Nat.beq f 58 with | true => some F.ref01_Sub_c | false => none)
             | false =>
               (match Nat.beq f 59 with | true => some F.law36_coin_c | false => none)))
         | false =>
           (match Nat.blt f 62 with
           | true =>
             (match Nat.beq f 60 with | true => some F.ref02_Make_c | false => none)
           | false =>
             (match Nat.blt f 66 with
             | true =>
               (match Nat.beq f 62 with | true => some F.privacy_rates_c | false => none)
             | false =>
               (match Nat.beq f 66 with | true => some F.privacy_more_c | false => none))))))
   | false =>
     (match Nat.blt f 97 with
     | true =>
       (match Nat.blt f 79 with
       | true =>
         (match Nat.blt f 76 with
         | true =>
           (match Nat.blt f 69 with
           | true =>
             (match Nat.beq f 68 with | true => some F.ref01_Of_c | false => none)
           | false =>
             (match Nat.blt f 74 with
             | true =>
               (match Nat.beq f 69 with | true => some F.ref02_Neg_c | false => none)
             | false =>
               (match Nat.beq f 74 with | true => some F.ratio_Compare_c | false => none)))
         | false =>
           (match Nat.blt f 77 with
           | true =>
             (match Nat.beq f 76 with | true => some F.ratio_Div_c | false => none)
           | false =>
             (match Nat.blt f 78 with
             | true =>
               (match Nat.beq f 77 with | true => some F.ratio_Sub_c | false => none)
             | false =>
               (match Nat.beq f 78 with | true => some F.ratio_Add_c | false => none))))
       | false =>
         (match Nat.blt f 88 with
         | true =>
           (match Nat.blt f 85 with
           | true =>
             (match Nat.beq f 79 with | true => some F.ratio_Mul_c | false => none)
           | false =>
             (match Nat.blt f 87 with
             | true =>
               (match Nat.beq f 85 with | true => some F.ratio_Right_c | false => none)
             | false =>
               (match Nat.beq f 87 with | true => some F.couple_Right_c | false => none)))
         | false =>
           (match Nat.blt f 93 with
           | true =>
             (match Nat.beq f 88 with | true => some F.ratio_Zero_c | false => none)
           | false =>
             (match Nat.blt f 96 with
             | true =>
               (match Nat.beq f 93 with | true => some F.value_Compare_c | false => none)
             | false =>
               (match Nat.beq f 96 with | true => some F.ref01_Gcd_c | false => none)))))
     | false =>
       (match Nat.blt f 103 with
       | true =>
         (match Nat.blt f 100 with
         | true =>
           (match Nat.blt f 98 with
           | true =>
             (match Nat.beq f 97 with | true => some F.ratio_One_c | false => none)
           | false =>
             (match Nat.blt f 99 with
             | true =>
               (match Nat.beq f 98 with | true => some F.ref01_Bits_c | false => none)
             | false =>
               (match Nat.beq f 99 with | true => some F.ref01_Div_c | false => none)))
         | false =>
           (match Nat.blt f 101 with
           | true =>
             (match Nat.beq f 100 with | true => some F.ref01_trim_c | false => none)
           | false =>
             (match Nat.blt f 102 with
             | true =>
               (match Nat.beq f 101 with | true => some F.ref01_at_c | false => none)
             | false =>
               (match Nat.beq f 102 with | true => some F.ref02_size_c | false => none))))
       | false =>
         (match Nat.blt f 106 with
         | true =>
           (match Nat.blt f 104 with
           | true =>
             (match Nat.beq f 103 with | true => some F.privacy_weight_c | false => none)
           | false =>
             (match Nat.blt f 105 with
             | true =>
               (match Nat.beq f 104 with | true => some F.slices_SortFunc_Ratio_Ratio_c | false => none)
             | false =>
               (match Nat.beq f 105 with | true => some F.slices_CompactFunc_Ratio_Ratio_c | false => none)))
         | false =>
           (match Nat.blt f 108 with
           | true =>
             (match Nat.beq f 106 with | true => some F.ratio_Same_c | false => none)
           | false =>
             (match Nat.blt f 109 with
             | true =>
               (match Nat.beq f 108 with | true => some F.ratio_Sign_c | false => none)
             | false =>
               (match Nat.beq f 109 with | true => some F.nat_Compare_c | false => none)))))))
 | false =>
   (match Nat.blt f 139 with
   | true =>
     (match Nat.blt f 124 with
     | true =>
       (match Nat.blt f 115 with
       | true =>
         (match Nat.blt f 112 with
         | true =>
           (match Nat.blt f 111 with
           | true =>
             (match Nat.beq f 110 with | true => some F.nat_Mul_c | false => none)
           | false =>
             (match Nat.beq f 111 with | true => some F.slices_Clone_Nat_uint32_c | false => none))
         | false =>
           (match Nat.blt f 113 with
           | true =>
             (match Nat.beq f 112 with | true => some F.ratio_made_c | false => none)
           | false =>
             (match Nat.blt f 114 with
             | true =>
               (match Nat.beq f 113 with | true => some F.ratio_Neg_c | false => none)
             | false =>
               (match Nat.beq f 114 with | true => some F.nat_Add_c | false => none))))
       | false =>
         (match Nat.blt f 121 with
         | true =>
           (match Nat.blt f 119 with
           | true =>
             (match Nat.beq f 115 with | true => some F.nat_Sub_c | false => none)
           | false =>
             (match Nat.blt f 120 with
             | true =>
               (match Nat.beq f 119 with | true => some F.nat_Right_c | false => none)
             | false =>
               (match Nat.beq f 120 with | true => some F.nat_Small_c | false => none)))
         | false =>
           (match Nat.blt f 122 with
           | true =>
             (match Nat.beq f 121 with | true => some F.nat_Gcd_c | false => none)
           | false =>
             (match Nat.blt f 123 with
             | true =>
               (match Nat.beq f 122 with | true => some F.value_Right_c | false => none)
             | false =>
               (match Nat.beq f 123 with | true => some F.nat_Of_c | false => none)))))
     | false =>
       (match Nat.blt f 133 with
       | true =>
         (match Nat.blt f 130 with
         | true =>
           (match Nat.blt f 128 with
           | true =>
             (match Nat.beq f 124 with | true => some F.slices_BinarySearchFunc_Part_Part_Value_c | false => none)
           | false =>
             (match Nat.blt f 129 with
             | true =>
               (match Nat.beq f 128 with | true => some F.cmp_Compare_int_c | false => none)
             | false =>
               (match Nat.beq f 129 with | true => some F.slices_CompareFunc_Value_Value_Value_Value_c | false => none)))
         | false =>
           (match Nat.blt f 131 with
           | true =>
             (match Nat.beq f 130 with | true => some F.ref01_Small_c | false => none)
           | false =>
             (match Nat.blt f 132 with
             | true =>
               (match Nat.beq f 131 with | true => some F.ref01_even_c | false => none)
             | false =>
               (match Nat.beq f 132 with | true => some F.ref01_half_c | false => none))))
       | false =>
         (match Nat.blt f 136 with
         | true =>
           (match Nat.blt f 134 with
           | true =>
             (match Nat.beq f 133 with | true => some F.ref01_short_c | false => none)
           | false =>
             (match Nat.blt f 135 with
             | true =>
               (match Nat.beq f 134 with | true => some F.ref01_guess_c | false => none)
             | false =>
               (match Nat.beq f 135 with | true => some F.ref01_times_c | false => none)))
         | false =>
           (match Nat.blt f 137 with
           | true =>
             (match Nat.beq f 136 with | true => some F.privacy_weight_1_c | false => none)
           | false =>
             (match Nat.blt f 138 with
             | true =>
               (match Nat.beq f 137 with | true => some F.slices_pdqsortCmpFunc_Ratio_c | false => none)
             | false =>
               (match Nat.beq f 138 with | true => some F.math_bits_Len_c | false => none))))))
   | false =>
     (match Nat.blt f 163 with
     | true =>
       (match Nat.blt f 148 with
       | true =>
         (match Nat.blt f 145 with
         | true =>
           (match Nat.blt f 140 with
           | true =>
             (match Nat.beq f 139 with | true => some F.nat_trim_c | false => none)
           | false =>
             (match Nat.blt f 144 with
             | true =>
               (match Nat.beq f 140 with | true => some F.ratio_Of_c | false => none)
             | false =>
               (match Nat.beq f 144 with | true => some F.nat_Div_c | false => none)))
         | false =>
           (match Nat.blt f 146 with
           | true =>
             (match Nat.beq f 145 with | true => some F.value_shape_c | false => none)
           | false =>
             (match Nat.blt f 147 with
             | true =>
               (match Nat.beq f 146 with | true => some F.value_TypeRight_c | false => none)
             | false =>
               (match Nat.beq f 147 with | true => some F.value_closed_c | false => none))))
       | false =>
         (match Nat.blt f 160 with
         | true =>
           (match Nat.blt f 151 with
           | true =>
             (match Nat.beq f 148 with | true => some F.value_Size_c | false => none)
           | false =>
             (match Nat.blt f 152 with
             | true =>
               (match Nat.beq f 151 with | true => some F.cmp_isNaN_int_c | false => none)
             | false =>
               (match Nat.beq f 152 with | true => some F.slices_insertionSortCmpFunc_Ratio_c | false => none)))
         | false =>
           (match Nat.blt f 161 with
           | true =>
             (match Nat.beq f 160 with | true => some F.math_bits_Len32_c | false => none)
           | false =>
             (match Nat.blt f 162 with
             | true =>
               (match Nat.beq f 161 with | true => some F.math_bits_Len64_c | false => none)
             | false =>
               (match Nat.beq f 162 with | true => some F.nat_short_c | false => none)))))
     | false =>
       (match Nat.blt f 175 with
       | true =>
         (match Nat.blt f 166 with
         | true =>
           (match Nat.blt f 164 with
           | true =>
             (match Nat.beq f 163 with | true => some F.math_bits_LeadingZeros32_c | false => none)
           | false =>
             (match Nat.blt f 165 with
             | true =>
               (match Nat.beq f 164 with | true => some F.nat_shifted_c | false => none)
             | false =>
               (match Nat.beq f 165 with | true => some F.value_has_c | false => none)))
         | false =>
           (match Nat.blt f 167 with
           | true =>
             (match Nat.beq f 166 with | true => some F.value_join_c | false => none)
           | false =>
             (match Nat.blt f 174 with
             | true =>
               (match Nat.beq f 167 with | true => some F.value_deep_c | false => none)
             | false =>
               (match Nat.beq f 174 with | true => some F.slices_EqualFunc_Type_Value_Type_Value_c | false => none))))
       | false =>
         (match Nat.blt f 178 with
         | true =>
           (match Nat.blt f 176 with
           | true =>
             (match Nat.beq f 175 with | true => some F.slices_ContainsFunc_Value_Value_c | false => none)
           | false =>
             (match Nat.blt f 177 with
             | true =>
               (match Nat.beq f 176 with | true => some F.value_has_1_c | false => none)
             | false =>
               (match Nat.beq f 177 with | true => some F.slices_ContainsFunc_Type_Type_c | false => none)))
         | false =>
           (match Nat.blt f 181 with
           | true =>
             (match Nat.beq f 178 with | true => some F.value_deep_1_c | false => none)
           | false =>
             (match Nat.blt f 182 with
             | true =>
               (match Nat.beq f 181 with | true => some F.slices_IndexFunc_Value_Value_c | false => none)
             | false =>
               (match Nat.beq f 182 with | true => some F.slices_IndexFunc_Type_Type_c | false => none))))))))
theorem TAliv6T_ok : TabOK Tryz.prog TAliv6T := by
 intro f mf h
 unfold TAliv6T at h
 repeat' split at h
 all_goals first | (simp at h; done) | skip
 ·rename_i e; have e := Nat.eq_of_beq_eq_true e; subst e; injection h with h; subst h; exact ⟨_, _, F.privacy_Rest_ok⟩
 ·rename_i e; have e := Nat.eq_of_beq_eq_true e; subst e; injection h with h; subst h; exact ⟨_, _, F.ref02_Compare_ok⟩
 ·rename_i e; have e := Nat.eq_of_beq_eq_true e; subst e; injection h with h; subst h; exact ⟨_, _, F.ref02_Add_ok⟩
 ·rename_i e; have e := Nat.eq_of_beq_eq_true e; subst e; injection h with h; subst h; exact ⟨_, _, F.law36_alive_ok⟩
 ·rename_i e; have e := Nat.eq_of_beq_eq_true e; subst e; injection h with h; subst h; exact ⟨_, _, F.privacy_Rate_ok⟩
 ·rename_i e; have e := Nat.eq_of_beq_eq_true e; subst e; injection h with h; subst h; exact ⟨_, _, F.ref02_Same_ok⟩
 ·rename_i e; have e := Nat.eq_of_beq_eq_true e; subst e; injection h with h; subst h; exact ⟨_, _, F.ref02_Zero_ok⟩
 ·rename_i e; have e := Nat.eq_of_beq_eq_true e; subst e; injection h with h; subst h; exact ⟨_, _, F.ref02_Sub_ok⟩
 ·rename_i e; have e := Nat.eq_of_beq_eq_true e; subst e; injection h with h; subst h; exact ⟨_, _, F.ref02_One_ok⟩
 ·rename_i e; have e := Nat.eq_of_beq_eq_true e; subst e; injection h with h; subst h; exact ⟨_, _, F.ref02_Sign_ok⟩
 ·rename_i e; have e := Nat.eq_of_beq_eq_true e; subst e; injection h with h; subst h; exact ⟨_, _, F.privacy_both_ok⟩
 ·rename_i e; have e := Nat.eq_of_beq_eq_true e; subst e; injection h with h; subst h; exact ⟨_, _, F.privacy_rated_ok⟩
 ·rename_i e; have e := Nat.eq_of_beq_eq_true e; subst e; injection h with h; subst h; exact ⟨_, _, F.privacy_rest_ok⟩
 ·rename_i e; have e := Nat.eq_of_beq_eq_true e; subst e; injection h with h; subst h; exact ⟨_, _, F.ref02_valid_ok⟩
 ·rename_i e; have e := Nat.eq_of_beq_eq_true e; subst e; injection h with h; subst h; exact ⟨_, _, F.ref02_Of_ok⟩
 ·rename_i e; have e := Nat.eq_of_beq_eq_true e; subst e; injection h with h; subst h; exact ⟨_, _, F.ref01_Mul_ok⟩
 ·rename_i e; have e := Nat.eq_of_beq_eq_true e; subst e; injection h with h; subst h; exact ⟨_, _, F.ref01_Add_ok⟩
 ·rename_i e; have e := Nat.eq_of_beq_eq_true e; subst e; injection h with h; subst h; exact ⟨_, _, F.ref01_Compare_ok⟩
 ·rename_i e; have e := Nat.eq_of_beq_eq_true e; subst e; injection h with h; subst h; exact ⟨_, _, F.ref01_Sub_ok⟩
 ·rename_i e; have e := Nat.eq_of_beq_eq_true e; subst e; injection h with h; subst h; exact ⟨_, _, F.law36_coin_ok⟩
 ·rename_i e; have e := Nat.eq_of_beq_eq_true e; subst e; injection h with h; subst h; exact ⟨_, _, F.ref02_Make_ok⟩
 ·rename_i e; have e := Nat.eq_of_beq_eq_true e; subst e; injection h with h; subst h; exact ⟨_, _, F.privacy_rates_ok⟩
 ·rename_i e; have e := Nat.eq_of_beq_eq_true e; subst e; injection h with h; subst h; exact ⟨_, _, F.privacy_more_ok⟩
 ·rename_i e; have e := Nat.eq_of_beq_eq_true e; subst e; injection h with h; subst h; exact ⟨_, _, F.ref01_Of_ok⟩
 ·rename_i e; have e := Nat.eq_of_beq_eq_true e; subst e; injection h with h; subst h; exact ⟨_, _, F.ref02_Neg_ok⟩
 ·rename_i e; have e := Nat.eq_of_beq_eq_true e; subst e; injection h with h; subst h; exact ⟨_, _, F.ratio_Compare_ok⟩
 ·rename_i e; have e := Nat.eq_of_beq_eq_true e; subst e; injection h with h; subst h; exact ⟨_, _, F.ratio_Div_ok⟩
 ·rename_i e; have e := Nat.eq_of_beq_eq_true e; subst e; injection h with h; subst h; exact ⟨_, _, F.ratio_Sub_ok⟩
 ·rename_i e; have e := Nat.eq_of_beq_eq_true e; subst e; injection h with h; subst h; exact ⟨_, _, F.ratio_Add_ok⟩
 ·rename_i e; have e := Nat.eq_of_beq_eq_true e; subst e; injection h with h; subst h; exact ⟨_, _, F.ratio_Mul_ok⟩
 ·rename_i e; have e := Nat.eq_of_beq_eq_true e; subst e; injection h with h; subst h; exact ⟨_, _, F.ratio_Right_ok⟩
 ·rename_i e; have e := Nat.eq_of_beq_eq_true e; subst e; injection h with h; subst h; exact ⟨_, _, F.couple_Right_ok⟩
 ·rename_i e; have e := Nat.eq_of_beq_eq_true e; subst e; injection h with h; subst h; exact ⟨_, _, F.ratio_Zero_ok⟩
 ·rename_i e; have e := Nat.eq_of_beq_eq_true e; subst e; injection h with h; subst h; exact ⟨_, _, F.value_Compare_ok⟩
 ·rename_i e; have e := Nat.eq_of_beq_eq_true e; subst e; injection h with h; subst h; exact ⟨_, _, F.ref01_Gcd_ok⟩
 ·rename_i e; have e := Nat.eq_of_beq_eq_true e; subst e; injection h with h; subst h; exact ⟨_, _, F.ratio_One_ok⟩
 ·rename_i e; have e := Nat.eq_of_beq_eq_true e; subst e; injection h with h; subst h; exact ⟨_, _, F.ref01_Bits_ok⟩
 ·rename_i e; have e := Nat.eq_of_beq_eq_true e; subst e; injection h with h; subst h; exact ⟨_, _, F.ref01_Div_ok⟩
 ·rename_i e; have e := Nat.eq_of_beq_eq_true e; subst e; injection h with h; subst h; exact ⟨_, _, F.ref01_trim_ok⟩
 ·rename_i e; have e := Nat.eq_of_beq_eq_true e; subst e; injection h with h; subst h; exact ⟨_, _, F.ref01_at_ok⟩
 ·rename_i e; have e := Nat.eq_of_beq_eq_true e; subst e; injection h with h; subst h; exact ⟨_, _, F.ref02_size_ok⟩
 ·rename_i e; have e := Nat.eq_of_beq_eq_true e; subst e; injection h with h; subst h; exact ⟨_, _, F.privacy_weight_ok⟩
 ·rename_i e; have e := Nat.eq_of_beq_eq_true e; subst e; injection h with h; subst h; exact ⟨_, _, F.slices_SortFunc_Ratio_Ratio_ok⟩
 ·rename_i e; have e := Nat.eq_of_beq_eq_true e; subst e; injection h with h; subst h; exact ⟨_, _, F.slices_CompactFunc_Ratio_Ratio_ok⟩
 ·rename_i e; have e := Nat.eq_of_beq_eq_true e; subst e; injection h with h; subst h; exact ⟨_, _, F.ratio_Same_ok⟩
 ·rename_i e; have e := Nat.eq_of_beq_eq_true e; subst e; injection h with h; subst h; exact ⟨_, _, F.ratio_Sign_ok⟩
 ·rename_i e; have e := Nat.eq_of_beq_eq_true e; subst e; injection h with h; subst h; exact ⟨_, _, F.nat_Compare_ok⟩
 ·rename_i e; have e := Nat.eq_of_beq_eq_true e; subst e; injection h with h; subst h; exact ⟨_, _, F.nat_Mul_ok⟩
 ·rename_i e; have e := Nat.eq_of_beq_eq_true e; subst e; injection h with h; subst h; exact ⟨_, _, F.slices_Clone_Nat_uint32_ok⟩
 ·rename_i e; have e := Nat.eq_of_beq_eq_true e; subst e; injection h with h; subst h; exact ⟨_, _, F.ratio_made_ok⟩
 ·rename_i e; have e := Nat.eq_of_beq_eq_true e; subst e; injection h with h; subst h; exact ⟨_, _, F.ratio_Neg_ok⟩
 ·rename_i e; have e := Nat.eq_of_beq_eq_true e; subst e; injection h with h; subst h; exact ⟨_, _, F.nat_Add_ok⟩
 ·rename_i e; have e := Nat.eq_of_beq_eq_true e; subst e; injection h with h; subst h; exact ⟨_, _, F.nat_Sub_ok⟩
 ·rename_i e; have e := Nat.eq_of_beq_eq_true e; subst e; injection h with h; subst h; exact ⟨_, _, F.nat_Right_ok⟩
 ·rename_i e; have e := Nat.eq_of_beq_eq_true e; subst e; injection h with h; subst h; exact ⟨_, _, F.nat_Small_ok⟩
 ·rename_i e; have e := Nat.eq_of_beq_eq_true e; subst e; injection h with h; subst h; exact ⟨_, _, F.nat_Gcd_ok⟩
 ·rename_i e; have e := Nat.eq_of_beq_eq_true e; subst e; injection h with h; subst h; exact ⟨_, _, F.value_Right_ok⟩
 ·rename_i e; have e := Nat.eq_of_beq_eq_true e; subst e; injection h with h; subst h; exact ⟨_, _, F.nat_Of_ok⟩
 ·rename_i e; have e := Nat.eq_of_beq_eq_true e; subst e; injection h with h; subst h; exact ⟨_, _, F.slices_BinarySearchFunc_Part_Part_Value_ok⟩
 ·rename_i e; have e := Nat.eq_of_beq_eq_true e; subst e; injection h with h; subst h; exact ⟨_, _, F.cmp_Compare_int_ok⟩
 ·rename_i e; have e := Nat.eq_of_beq_eq_true e; subst e; injection h with h; subst h; exact ⟨_, _, F.slices_CompareFunc_Value_Value_Value_Value_ok⟩
 ·rename_i e; have e := Nat.eq_of_beq_eq_true e; subst e; injection h with h; subst h; exact ⟨_, _, F.ref01_Small_ok⟩
 ·rename_i e; have e := Nat.eq_of_beq_eq_true e; subst e; injection h with h; subst h; exact ⟨_, _, F.ref01_even_ok⟩
 ·rename_i e; have e := Nat.eq_of_beq_eq_true e; subst e; injection h with h; subst h; exact ⟨_, _, F.ref01_half_ok⟩
 ·rename_i e; have e := Nat.eq_of_beq_eq_true e; subst e; injection h with h; subst h; exact ⟨_, _, F.ref01_short_ok⟩
 ·rename_i e; have e := Nat.eq_of_beq_eq_true e; subst e; injection h with h; subst h; exact ⟨_, _, F.ref01_guess_ok⟩
 ·rename_i e; have e := Nat.eq_of_beq_eq_true e; subst e; injection h with h; subst h; exact ⟨_, _, F.ref01_times_ok⟩
 ·rename_i e; have e := Nat.eq_of_beq_eq_true e; subst e; injection h with h; subst h; exact ⟨_, _, F.privacy_weight_1_ok⟩
 ·rename_i e; have e := Nat.eq_of_beq_eq_true e; subst e; injection h with h; subst h; exact ⟨_, _, F.slices_pdqsortCmpFunc_Ratio_ok⟩
 ·rename_i e; have e := Nat.eq_of_beq_eq_true e; subst e; injection h with h; subst h; exact ⟨_, _, F.math_bits_Len_ok⟩
 ·rename_i e; have e := Nat.eq_of_beq_eq_true e; subst e; injection h with h; subst h; exact ⟨_, _, F.nat_trim_ok⟩
 ·rename_i e; have e := Nat.eq_of_beq_eq_true e; subst e; injection h with h; subst h; exact ⟨_, _, F.ratio_Of_ok⟩
 ·rename_i e; have e := Nat.eq_of_beq_eq_true e; subst e; injection h with h; subst h; exact ⟨_, _, F.nat_Div_ok⟩
 ·rename_i e; have e := Nat.eq_of_beq_eq_true e; subst e; injection h with h; subst h; exact ⟨_, _, F.value_shape_ok⟩
 ·rename_i e; have e := Nat.eq_of_beq_eq_true e; subst e; injection h with h; subst h; exact ⟨_, _, F.value_TypeRight_ok⟩
 ·rename_i e; have e := Nat.eq_of_beq_eq_true e; subst e; injection h with h; subst h; exact ⟨_, _, F.value_closed_ok⟩
 ·rename_i e; have e := Nat.eq_of_beq_eq_true e; subst e; injection h with h; subst h; exact ⟨_, _, F.value_Size_ok⟩
 ·rename_i e; have e := Nat.eq_of_beq_eq_true e; subst e; injection h with h; subst h; exact ⟨_, _, F.cmp_isNaN_int_ok⟩
 ·rename_i e; have e := Nat.eq_of_beq_eq_true e; subst e; injection h with h; subst h; exact ⟨_, _, F.slices_insertionSortCmpFunc_Ratio_ok⟩
 ·rename_i e; have e := Nat.eq_of_beq_eq_true e; subst e; injection h with h; subst h; exact ⟨_, _, F.math_bits_Len32_ok⟩
 ·rename_i e; have e := Nat.eq_of_beq_eq_true e; subst e; injection h with h; subst h; exact ⟨_, _, F.math_bits_Len64_ok⟩
 ·rename_i e; have e := Nat.eq_of_beq_eq_true e; subst e; injection h with h; subst h; exact ⟨_, _, F.nat_short_ok⟩
 ·rename_i e; have e := Nat.eq_of_beq_eq_true e; subst e; injection h with h; subst h; exact ⟨_, _, F.math_bits_LeadingZeros32_ok⟩
 ·rename_i e; have e := Nat.eq_of_beq_eq_true e; subst e; injection h with h; subst h; exact ⟨_, _, F.nat_shifted_ok⟩
 ·rename_i e; have e := Nat.eq_of_beq_eq_true e; subst e; injection h with h; subst h; exact ⟨_, _, F.value_has_ok⟩
 ·rename_i e; have e := Nat.eq_of_beq_eq_true e; subst e; injection h with h; subst h; exact ⟨_, _, F.value_join_ok⟩
 ·rename_i e; have e := Nat.eq_of_beq_eq_true e; subst e; injection h with h; subst h; exact ⟨_, _, F.value_deep_ok⟩
 ·rename_i e; have e := Nat.eq_of_beq_eq_true e; subst e; injection h with h; subst h; exact ⟨_, _, F.slices_EqualFunc_Type_Value_Type_Value_ok⟩
 ·rename_i e; have e := Nat.eq_of_beq_eq_true e; subst e; injection h with h; subst h; exact ⟨_, _, F.slices_ContainsFunc_Value_Value_ok⟩
 ·rename_i e; have e := Nat.eq_of_beq_eq_true e; subst e; injection h with h; subst h; exact ⟨_, _, F.value_has_1_ok⟩
 ·rename_i e; have e := Nat.eq_of_beq_eq_true e; subst e; injection h with h; subst h; exact ⟨_, _, F.slices_ContainsFunc_Type_Type_ok⟩
 ·rename_i e; have e := Nat.eq_of_beq_eq_true e; subst e; injection h with h; subst h; exact ⟨_, _, F.value_deep_1_ok⟩
 ·rename_i e; have e := Nat.eq_of_beq_eq_true e; subst e; injection h with h; subst h; exact ⟨_, _, F.slices_IndexFunc_Value_Value_ok⟩
 ·rename_i e; have e := Nat.eq_of_beq_eq_true e; subst e; injection h with h; subst h; exact ⟨_, _, F.slices_IndexFunc_Type_Type_ok⟩
def aliv6X (f : Nat) : Bool := match Nat.beq f F.nat_shifted || (Nat.beq f F.slices_SortFunc_Ratio_Ratio || (Nat.beq f F.slices_pdqsortCmpFunc_Ratio || (Nat.beq f F.slices_insertionSortCmpFunc_Ratio))) with | true => true | false => false
def aliv6B (f : Nat) (ds : List V) : Option V := match Nat.beq f F.slices_Clone_Nat_uint32, ds with | true, [.dat []] => some (.dat []) | _, _ => none
theorem aliv6B_ok : BOK Tryz.prog aliv6B := by
 intro f ds d h
 unfold aliv6B at h
 split at h
 ·rename_i e
  have e := Nat.eq_of_beq_eq_true e
  subst e
  injection h with h
  subst h
  exact slices_Clone (l := []) (by simp)
 ·simp at h
set_option maxRecDepth 100000 in
theorem law36_alive : CallD Tryz.prog F.law36_alive [] (· = .bool true) :=
 callD_run (X := aliv6X) TAliv6T_ok aliv6B_ok 100 (by kernel_rfl)
end Go.Proofs.YtipbefckimdkkaaGreat
