import Derived.Test.YtmjgehbpcchjpaaGreatDoorGE
import Derived.Test.YtmjgehbpcchjpaaGreatDoorGC
import Derived.Test.YtmjgehbpcchjpaaGreatDoorProg
import Derived.KernelRfl
import Derived.Test.YtmjgehbpcchjpaaGreatDoorHK
import Derived.Test.YtmjgehbpcchjpaaGreatDoorHV
import Derived.Test.YtmjgehbpcchjpaaGreatDoorHW
import Derived.Test.YtmjgehbpcchjpaaGreatDoorGL
import Derived.Test.YtmjgehbpcchjpaaGreatDoorHA
import Derived.Test.YtmjgehbpcchjpaaGreatDoorHM
import Derived.Test.YtmjgehbpcchjpaaGreatDoorHR
import Derived.Test.YtmjgehbpcchjpaaGreatDoorGH
import Derived.Test.YtmjgehbpcchjpaaGreatDoorHZ
import Derived.Test.YtmjgehbpcchjpaaGreatDoorHL
import Derived.Test.YtmjgehbpcchjpaaGreatDoorGX
import Derived.Test.YtmjgehbpcchjpaaGreatDoorGM
import Derived.Test.YtmjgehbpcchjpaaGreatDoorHJ
import Derived.Test.YtmjgehbpcchjpaaGreatDoorHI
import Derived.Test.YtmjgehbpcchjpaaGreatDoorGI
namespace Go.Proofs.YtmjgehbpcchjpaaGreatDoor.F
open Go Go.Proofs Go.Proofs.YtmjgehbpcchjpaaGreatDoor.E Go.Proofs.YtmjgehbpcchjpaaGreatDoor.Q
abbrev law04_awake : Nat := 16
def law04_awake_c : MFn := ⟨118,(.seq (r [o 0 (.mv (.c (.bool false)))] []) (.seq (r [o 10 (.call 74 [(i 1)]),o 11 (.call 75 [(i 1),(i 2)]),o 12 (.call 46 [(.t 10),(.t 11)]),o 13 (.call 74 [(i 0)]),o 14 (.call 75 [(i 1),(i 4)]),o 15 (.call 46 [(.t 13),(.t 14)]),o 16 (.call 20 [(.t 12),(.t 15)]),o 17 (.build [.int .i64 0,.int .i64 0,.int .i64 0,.int .i64 0,.nils] [(0,1,(i 1))]),o 18 (.call 75 [(i 1),(i 4)]),o 19 (.call 50 [(.t 17),(.t 18)]),o 20 (.call 20 [(.t 16),(.t 19)]),o 1 (.alloc zM),z (.st 16 (.t 1) (.t 20))] [1]) (.seq (r [o 21 (.call 64 [(i 0)]),o 22 (.call 75 [(i 1),(i 2)]),o 23 (.call 46 [(.t 21),(.t 22)]),o 24 (.call 64 [(i 1)]),o 25 (.call 75 [(i 1),(i 4)]),o 26 (.call 46 [(.t 24),(.t 25)]),o 27 (.call 20 [(.t 23),(.t 26)]),o 28 (.call 64 [(i 2)]),o 29 (.call 75 [(i 1),(i 8)]),o 30 (.call 46 [(.t 28),(.t 29)]),o 31 (.build [.int .i64 0,.int .i64 0,.int .i64 0,.int .i64 0,.nils] [(0,1,(i 2))]),o 32 (.call 75 [(i 1),(i 8)]),o 33 (.call 50 [(.t 31),(.t 32)]),o 34 (.call 20 [(.t 30),(.t 33)]),o 35 (.call 20 [(.t 27),(.t 34)]),o 2 (.alloc zM),z (.st 16 (.t 2) (.t 35))] [1,2]) (.seq (r [o 37 (.ld (some 16) (.t 2)),o 38 (.callF 64 [(i 0)]),o 39 (.callF 27 [(.t 37),(.t 38)]),o 36 (.mv (.t 39)),o 40 (.ext (.t 36) 0),o 41 (.ext (.t 36) 1),o 42 (.ext (.t 36) 2),o 3 (.alloc zR),o 4 (.alloc zR),z (.st 3 (.t 3) (.t 40)),z (.st 3 (.t 4) (.t 41)),o 5 (.mv (.t 42))] [1,2,3,4,5]) (.seq (r [o 44 (.ld (some 16) (.t 1)),o 45 (.call 25 [(.t 44)]),o 43 (.mv (.t 45)),o 46 (.ext (.t 43) 0),o 47 (.ext (.t 43) 1),o 6 (.mv (.t 46)),o 7 (.mv (.t 47))] [1,2,3,4,5,6,7]) (.seq (r [o 49 (.ld (some 16) (.t 1)),o 50 (.ld (some 16) (.t 2)),o 51 (.buildSl 16 2 zM [(0,(.t 49)),(1,(.t 50))]),o 52 (.buildSl 1 2 [.int .i64 0] [(0,(i 1)),(1,(i 3))]),o 53 (.call 17 [(.t 51),(.t 52)]),o 48 (.mv (.t 53)),o 54 (.ext (.t 48) 0),o 55 (.ext (.t 48) 1),o 8 (.alloc zM),z (.st 16 (.t 8) (.t 54)),o 9 (.mv (.t 55))] [1,3,4,5,6,7,8,9]) (.seq (r [o 56 (.ld (some 16) (.t 1)),o 57 (.callF 33 [(.t 56)]),o 58 (.binT .eql (.t 57) (.c (.str ⟨#[102,97,108,115,101,58,32,49,47,52,10,116,114,117,101,58,32,49,47,50,10,114,101,102,117,115,101,100,58,32,49,47,52,10]⟩))),o 59 (.mv (.t 58)),y 60 59 (.ld (some 3) (.t 3)),y 61 59 (.callF 76 [(.t 60)]),y 62 59 (.binT .eql (.t 61) (.c (.str ⟨#[49,47,50]⟩))),o 63 (.pick (.t 59) (.t 62) (.c (.bool false))),o 64 (.mv (.t 63)),y 65 64 (.ld (some 3) (.t 4)),y 66 64 (.callF 76 [(.t 65)]),y 67 64 (.binT .eql (.t 66) (.c (.str ⟨#[53,47,56]⟩))),o 68 (.pick (.t 64) (.t 67) (.c (.bool false))),o 69 (.mv (.t 68)),y 70 69 (.mv (.t 5)),y 71 69 (.bin .eql (.t 70) (i 0)),o 72 (.pick (.t 69) (.t 71) (.c (.bool false))),o 73 (.mv (.t 72)),y 74 73 (.mv (.t 6)),y 75 73 (.lenS (.t 74)),y 76 73 (.bin .eql (.t 75) (i 2)),o 77 (.pick (.t 73) (.t 76) (.c (.bool false))),o 78 (.mv (.t 77)),y 79 78 (.mv (.t 6)),y 80 78 (.ixA 6 (.t 79) (i 1)),y 81 78 (.fA 3 (.t 80)),y 82 78 (.ld (some 3) (.t 81)),y 83 78 (.callF 76 [(.t 82)]),y 84 78 (.binT .eql (.t 83) (.c (.str ⟨#[50,47,51]⟩))),o 85 (.pick (.t 78) (.t 84) (.c (.bool false))),o 86 (.mv (.t 85)),y 87 86 (.mv (.t 7)),y 88 86 (.bin .eql (.t 87) (i 0)),o 89 (.pick (.t 86) (.t 88) (.c (.bool false))),o 90 (.mv (.t 89)),y 91 90 (.mv (.t 9)),y 92 90 (.bin .eql (.t 91) (i 0)),o 93 (.pick (.t 90) (.t 92) (.c (.bool false))),o 94 (.mv (.t 93)),y 95 94 (.ld (some 16) (.t 8)),y 96 94 (.callF 64 [(i 0)]),y 97 94 (.callF 54 [(.t 95),(.t 96)]),y 98 94 (.callF 76 [(.t 97)]),y 99 94 (.binT .eql (.t 98) (.c (.str ⟨#[51,47,56]⟩))),o 100 (.pick (.t 94) (.t 99) (.c (.bool false))),o 101 (.mv (.t 100)),y 102 101 (.ld (some 16) (.t 8)),y 103 101 (.callF 42 [(.t 102)]),y 104 101 (.callF 76 [(.t 103)]),y 105 101 (.binT .eql (.t 104) (.c (.str ⟨#[49]⟩))),o 106 (.pick (.t 101) (.t 105) (.c (.bool false))),o 107 (.mv (.t 106)),y 108 107 (.ld (some 16) (.t 8)),y 109 107 (.callF 37 [(.t 108)]),o 110 (.pick (.t 107) (.t 109) (.c (.bool false))),o 111 (.mv (.t 110)),y 112 111 (.ld (some 16) (.t 1)),y 113 111 (.callF 48 []),y 114 111 (.callF 22 [(.t 112),(.t 113)]),y 115 111 (.ld (some 16) (.t 1)),y 116 111 (.callF 31 [(.t 114),(.t 115)]),o 117 (.pick (.t 111) (.t 116) (.c (.bool false))),o 0 (.mv (.t 117))] [0]) .ret))))))),[.t 0]⟩
theorem law04_awake_ok : cFn Tryz.prog (kps [[],[1],[1,2],[1,2,3,4,5],[1,2,3,4,5,6,7],[1,3,4,5,6,7,8,9],[0]]) [] 16 = some law04_awake_c := by kernel_rfl
abbrev mass_Mix : Nat := 17
def mass_Mix_c : MFn := ⟨20,(.seq (r [o 4 (.alloc zM),o 5 (.mv (i 0))] [0,1,4]) (.seq (r [o 9 (.mv (.t 0)),o 10 (.mv (.t 1)),o 11 (.call 77 [(.t 9),(.t 10)]),o 8 (.mv (.t 11)),o 12 (.ext (.t 8) 0),o 13 (.ext (.t 8) 1),o 6 (.alloc zM),z (.st 16 (.t 6) (.t 12)),o 7 (.mv (.t 13))] [4,6,7]) (.seq (.seq (r [o 14 (.mv (.t 7)),o 15 (.bin .neq (.t 14) (i 0))] [4,6,7,15]) (.cond (.t 15) (.seq (r [o 16 (.build zM []),o 17 (.mv (.t 7)),z (.st 16 (.t 4) (.t 16)),o 5 (.mv (.t 17))] [4,5]) .ret) .skip)) (.seq (r [o 18 (.ld (some 16) (.t 6)),o 19 (.call 78 [(.t 18)]),z (.st 16 (.t 4) (.t 19)),o 5 (.mv (i 0))] [4,5]) .ret)))),[.cell 4 (some 16),.t 5]⟩
theorem mass_Mix_ok : cFn Tryz.prog (kps [[0,1,4],[4,6,7],[4,6,7,15],[4,5],[4,5]]) [] 17 = some mass_Mix_c := by kernel_rfl
abbrev mass_Scale : Nat := 22
def mass_Scale_c : MFn := ⟨9,(.seq (r [o 2 (.box (.t 0)),o 3 (.box (.t 1)),o 4 (.alloc zM)] [2,3,4]) (.seq (r [o 5 (.ld (some 16) (.t 2)),o 6 (.ld (some 3) (.t 3)),o 7 (.call 83 [(.t 5),(.t 6)]),o 8 (.call 78 [(.t 7)]),z (.st 16 (.t 4) (.t 8))] [4]) .ret)),[.cell 4 (some 16)]⟩
theorem mass_Scale_ok : cFn Tryz.prog (kps [[2,3,4],[4]]) [] 22 = some mass_Scale_c := by kernel_rfl
abbrev mass_Answer : Nat := 25
def mass_Answer_c : MFn := ⟨14,(.seq (r [o 1 (.box (.t 0)),o 2 (.mv (.c .nils)),o 3 (.mv (i 0))] [1]) (.seq (r [o 7 (.ld (some 16) (.t 1)),o 8 (.call 86 [(.t 7)]),o 6 (.mv (.t 8)),o 9 (.ext (.t 6) 0),o 10 (.ext (.t 6) 1),o 4 (.mv (.t 9)),o 5 (.mv (.t 10))] [4,5]) (.seq (r [o 11 (.mv (.t 4)),o 12 (.call 87 [(.t 11)]),o 13 (.mv (.t 5)),o 2 (.mv (.t 12)),o 3 (.mv (.t 13))] [2,3]) .ret))),[.t 2,.t 3]⟩
theorem mass_Answer_ok : cFn Tryz.prog (kps [[1],[4,5],[2,3]]) [] 25 = some mass_Answer_c := by kernel_rfl
abbrev mass_Bounds : Nat := 27
def mass_Bounds_c : MFn := ⟨13,(.seq (r [o 2 (.box (.t 0)),o 3 (.box (.t 1)),o 4 (.alloc zR),o 5 (.alloc zR),o 6 (.mv (i 0))] [2,3,4,5]) (.seq (r [o 7 (.ld (some 16) (.t 2)),o 8 (.ld (some 3) (.t 3)),o 9 (.call 91 [(.t 7),(.t 8)]),o 10 (.ext (.t 9) 0),o 11 (.ext (.t 9) 1),o 12 (.ext (.t 9) 2),z (.st 3 (.t 4) (.t 10)),z (.st 3 (.t 5) (.t 11)),o 6 (.mv (.t 12))] [4,5,6]) .ret)),[.cell 4 (some 3),.cell 5 (some 3),.t 6]⟩
theorem mass_Bounds_ok : cFn Tryz.prog (kps [[2,3,4,5],[4,5,6]]) [] 27 = some mass_Bounds_c := by kernel_rfl
abbrev mass_Text : Nat := 33
def mass_Text_c : MFn := ⟨5,(.seq (r [o 1 (.box (.t 0)),o 2 (.mv (.c (.str ⟨#[]⟩)))] [1]) (.seq (r [o 3 (.ld (some 16) (.t 1)),o 4 (.call 96 [(.t 3)]),o 2 (.mv (.t 4))] [2]) .ret)),[.t 2]⟩
theorem mass_Text_ok : cFn Tryz.prog (kps [[1],[2]]) [] 33 = some mass_Text_c := by kernel_rfl
abbrev mass_Right : Nat := 37
def mass_Right_c : MFn := ⟨5,(.seq (r [o 1 (.box (.t 0)),o 2 (.mv (.c (.bool false)))] [1]) (.seq (r [o 3 (.ld (some 16) (.t 1)),o 4 (.call 104 [(.t 3)]),o 2 (.mv (.t 4))] [2]) .ret)),[.t 2]⟩
theorem mass_Right_ok : cFn Tryz.prog (kps [[1],[2]]) [] 37 = some mass_Right_c := by kernel_rfl
abbrev mass_Total : Nat := 42
def mass_Total_c : MFn := ⟨5,(.seq (r [o 1 (.box (.t 0)),o 2 (.alloc zR)] [1,2]) (.seq (r [o 3 (.ld (some 16) (.t 1)),o 4 (.call 110 [(.t 3)]),z (.st 3 (.t 2) (.t 4))] [2]) .ret)),[.cell 2 (some 3)]⟩
theorem mass_Total_ok : cFn Tryz.prog (kps [[1,2],[2]]) [] 42 = some mass_Total_c := by kernel_rfl
abbrev ratio_Div : Nat := 43
def ratio_Div_c : MFn := ⟨26,(.seq (r [o 2 (.box (.t 0)),o 3 (.box (.t 1)),o 4 (.alloc zR),o 5 (.mv (i 0))] [2,3,4]) (.seq (.seq (r [o 6 (.ld (some 3) (.t 3)),o 7 (.call 36 [(.t 6)]),o 8 (.bin .eql (.t 7) (i 0))] [2,3,4,8]) (.cond (.t 8) (.seq (r [o 9 (.build zR []),z (.st 3 (.t 4) (.t 9)),o 5 (.mv (i 31))] [4,5]) .ret) .skip)) (.seq (r [o 10 (.fA 0 (.t 2)),o 11 (.ld none (.t 10)),o 12 (.fA 0 (.t 3)),o 13 (.ld none (.t 12)),o 14 (.binB .neq (.t 11) (.t 13)),o 15 (.fA 1 (.t 2)),o 16 (.ld none (.t 15)),o 17 (.fA 2 (.t 3)),o 18 (.ld none (.t 17)),o 19 (.callF 107 [(.t 16),(.t 18)]),o 20 (.fA 2 (.t 2)),o 21 (.ld none (.t 20)),o 22 (.fA 1 (.t 3)),o 23 (.ld none (.t 22)),o 24 (.callF 107 [(.t 21),(.t 23)]),o 25 (.callF 106 [(.t 14),(.t 19),(.t 24)]),z (.st 3 (.t 4) (.t 25)),o 5 (.mv (i 0))] [4,5]) .ret))),[.cell 4 (some 3),.t 5]⟩
theorem ratio_Div_ok : cFn Tryz.prog (kps [[2,3,4],[2,3,4,8],[4,5],[4,5]]) [] 43 = some ratio_Div_c := by kernel_rfl
abbrev law04_one : Nat := 46
def law04_one_c : MFn := ⟨9,(.seq (r [o 2 (.box (.t 0)),o 3 (.box (.t 1)),o 4 (.alloc zM)] [2,3,4]) (.seq (r [o 5 (.ld (some 3) (.t 2)),o 6 (.build [.int .i64 0,.int .i64 0,.int .i64 0,.int .i64 0,.nils] [(2,3,(.t 5))]),o 7 (.ld (some 3) (.t 3)),o 8 (.call 50 [(.t 6),(.t 7)]),z (.st 16 (.t 4) (.t 8))] [4]) .ret)),[.cell 4 (some 16)]⟩
theorem law04_one_ok : cFn Tryz.prog (kps [[2,3,4],[4]]) [] 46 = some law04_one_c := by kernel_rfl
abbrev ratio_One : Nat := 48
def ratio_One_c : MFn := ⟨4,(.seq (r [o 0 (.alloc zR)] [0]) (.seq (r [o 1 (.call 112 [(.c (.int .u64 1))]),o 2 (.call 112 [(.c (.int .u64 1))]),o 3 (.build zR [(1,1,(.t 1)),(2,1,(.t 2))]),z (.st 3 (.t 0) (.t 3))] [0]) .ret)),[.cell 0 (some 3)]⟩
theorem ratio_One_ok : cFn Tryz.prog (kps [[0],[0]]) [] 48 = some ratio_One_c := by kernel_rfl
abbrev mass_Of : Nat := 50
def mass_Of_c : MFn := ⟨9,(.seq (r [o 2 (.box (.t 0)),o 3 (.box (.t 1)),o 4 (.alloc zM)] [2,3,4]) (.seq (r [o 5 (.ld (some 5) (.t 2)),o 6 (.ld (some 3) (.t 3)),o 7 (.call 114 [(.t 5),(.t 6)]),o 8 (.call 78 [(.t 7)]),z (.st 16 (.t 4) (.t 8))] [4]) .ret)),[.cell 4 (some 16)]⟩
theorem mass_Of_ok : cFn Tryz.prog (kps [[2,3,4],[4]]) [] 50 = some mass_Of_c := by kernel_rfl
abbrev mass_Weight : Nat := 54
def mass_Weight_c : MFn := ⟨8,(.seq (r [o 2 (.box (.t 0)),o 3 (.box (.t 1)),o 4 (.alloc zR)] [2,3,4]) (.seq (r [o 5 (.ld (some 16) (.t 2)),o 6 (.ld (some 3) (.t 3)),o 7 (.call 118 [(.t 5),(.t 6)]),z (.st 3 (.t 4) (.t 7))] [4]) .ret)),[.cell 4 (some 3)]⟩
theorem mass_Weight_ok : cFn Tryz.prog (kps [[2,3,4],[4]]) [] 54 = some mass_Weight_c := by kernel_rfl
abbrev law04_number : Nat := 64
def law04_number_c : MFn := ⟨5,(.seq (r [o 2 (.alloc zV)] [0,2]) (.seq (r [o 3 (.mv (.t 0)),o 4 (.build zV [(0,1,(i 2)),(1,1,(.t 3))]),z (.st 3 (.t 2) (.t 4))] [2]) .ret)),[.cell 2 (some 3)]⟩
theorem law04_number_ok : cFn Tryz.prog (kps [[0,2],[2]]) [] 64 = some law04_number_c := by kernel_rfl
abbrev law04_truth : Nat := 74
def law04_truth_c : MFn := ⟨5,(.seq (r [o 2 (.alloc zV)] [0,2]) (.seq (r [o 3 (.mv (.t 0)),o 4 (.build zV [(0,1,(i 1)),(1,1,(.t 3))]),z (.st 3 (.t 2) (.t 4))] [2]) .ret)),[.cell 2 (some 3)]⟩
theorem law04_truth_ok : cFn Tryz.prog (kps [[0,2],[2]]) [] 74 = some law04_truth_c := by kernel_rfl
abbrev law04_made : Nat := 75
def law04_made_c : MFn := ⟨14,(.seq (r [o 4 (.alloc zR)] [0,1,4]) (.seq (r [o 8 (.mv (.t 0)),o 9 (.mv (.t 1)),o 10 (.call 124 [(.t 8),(.t 9)]),o 7 (.mv (.t 10)),o 11 (.ext (.t 7) 0),o 12 (.ext (.t 7) 1),o 5 (.alloc zR),z (.st 3 (.t 5) (.t 11)),o 6 (.mv (.t 12))] [4,5]) (.seq (r [o 13 (.ld (some 3) (.t 5)),z (.st 3 (.t 4) (.t 13))] [4]) .ret))),[.cell 4 (some 3)]⟩
theorem law04_made_ok : cFn Tryz.prog (kps [[0,1,4],[4,5],[4]]) [] 75 = some law04_made_c := by kernel_rfl
abbrev ratio_Text : Nat := 76
def ratio_Text_c : MFn := ⟨38,(.seq (r [o 1 (.box (.t 0)),o 2 (.mv (.c (.str ⟨#[]⟩)))] [1]) (.seq (r [o 6 (.fA 0 (.t 1)),o 7 (.ld none (.t 6)),o 8 (.fA 1 (.t 1)),o 9 (.ld none (.t 8)),o 10 (.fA 2 (.t 1)),o 11 (.ld none (.t 10)),o 12 (.call 106 [(.t 7),(.t 9),(.t 11)]),z (.st 3 (.t 1) (.t 12))] [1]) (.seq (r [o 13 (.fA 1 (.t 1)),o 14 (.ld none (.t 13)),o 15 (.call 125 [(.t 14)]),o 3 (.mv (.t 15))] [1,3]) (.seq (.seq (r [o 16 (.fA 0 (.t 1)),o 17 (.ld none (.t 16))] [1,3,17]) (.cond (.t 17) (r [o 18 (.mv (.t 3)),o 19 (.binT .add (.c (.str ⟨#[45]⟩)) (.t 18)),o 3 (.mv (.t 19))] [1,3]) .skip)) (.seq (.seq (r [o 21 (.fA 2 (.t 1)),o 22 (.ld none (.t 21)),o 23 (.call 126 [(.t 22)]),o 20 (.mv (.t 23)),o 24 (.ext (.t 20) 0),o 25 (.ext (.t 20) 1),o 4 (.mv (.t 24)),o 5 (.mv (.t 25))] [1,3,4,5]) (.seq (r [o 26 (.mv (.t 5)),o 27 (.mv (.t 26)),y 28 27 (.mv (.t 4)),y 29 27 (.bin .eql (.t 28) (.c (.int .u64 1))),o 30 (.pick (.t 27) (.t 29) (.c (.bool false)))] [1,3,30]) (.cond (.t 30) (.seq (r [o 31 (.mv (.t 3)),o 2 (.mv (.t 31))] [2]) .ret) .skip))) (.seq (r [o 32 (.mv (.t 3)),o 33 (.binT .add (.t 32) (.c (.str ⟨#[47]⟩))),o 34 (.fA 2 (.t 1)),o 35 (.ld none (.t 34)),o 36 (.call 125 [(.t 35)]),o 37 (.binT .add (.t 33) (.t 36)),o 2 (.mv (.t 37))] [2]) .ret)))))),[.t 2]⟩
theorem ratio_Text_ok : cFn Tryz.prog (kps [[1],[1],[1,3],[1,3,17],[1,3],[1,3,4,5],[1,3,30],[2],[2]]) [] 76 = some ratio_Text_c := by kernel_rfl
abbrev weights_Mix : Nat := 77
def weights_Mix_c : MFn := ⟨67,(.seq (r [o 4 (.alloc zM),o 5 (.mv (i 0))] [0,1,4]) (.seq (r [o 6 (.mv (i 0))] [0,1,4,6]) (.seq (.seq (r [o 14 (.mv (.t 0)),o 15 (.lenS (.t 14)),o 16 (.mv (.t 1)),o 17 (.lenS (.t 16)),o 18 (.bin .neq (.t 15) (.t 17)),o 19 (.mv (.t 18)),n 20 19 (.mv (.t 0)),n 21 19 (.lenS (.t 20)),n 22 19 (.bin .eql (.t 21) (i 0)),o 23 (.pick (.t 19) (.c (.bool true)) (.t 22))] [0,1,4,6,23]) (.cond (.t 23) (.seq (r [o 24 (.build zM []),z (.st 16 (.t 4) (.t 24)),o 5 (.mv (i 1))] [4,5]) .ret) .skip)) (.seq (.seq (r [o 25 (.mv (.t 1)),o 26 (.lenS (.t 25)),o 27 (.mv (i 0))] [0,1,4,6,25,26,27]) (.block 0 (.loop (.seq (r [o 28 (.bin .lss (.t 27) (.t 26))] [0,1,4,6,25,26,27,28]) (.seq (.cond (.t 28) .skip (.exit 0)) (.seq (.block 1 (.seq (r [o 29 (.ixA 1 (.t 25) (.t 27)),o 30 (.ld none (.t 29)),o 8 (.mv (.t 30))] [0,1,4,6,8,25,26,27]) (.seq (.seq (r [o 31 (.mv (.t 8)),o 32 (.bin .lss (.t 31) (i 1)),o 33 (.mv (.t 32)),n 34 33 (.mv (.t 8)),n 35 33 (.bin .gtr (.t 34) (i 1000)),o 36 (.pick (.t 33) (.c (.bool true)) (.t 35))] [0,1,4,6,8,25,26,27,36]) (.cond (.t 36) (.seq (r [o 37 (.build zM []),z (.st 16 (.t 4) (.t 37)),o 5 (.mv (i 1))] [4,5]) .ret) .skip)) (r [o 38 (.mv (.t 6)),o 39 (.mv (.t 8)),o 40 (.bin .add (.t 38) (.t 39)),o 6 (.mv (.t 40))] [0,1,4,6,25,26,27])))) (r [o 41 (.bin .add (.t 27) (i 1)),o 27 (.mv (.t 41))] [0,1,4,6,25,26,27]))))))) (.seq (r [o 42 (.call 105 []),o 9 (.alloc zM),z (.st 16 (.t 9) (.t 42))] [0,1,4,6,9]) (.seq (.seq (r [o 43 (.mv (.t 0)),o 44 (.lenS (.t 43)),o 45 (.mv (i 0))] [1,4,6,9,43,44,45]) (.block 2 (.loop (.seq (r [o 46 (.bin .lss (.t 45) (.t 44))] [1,4,6,9,43,44,45,46]) (.seq (.cond (.t 46) .skip (.exit 2)) (.seq (.block 3 (.seq (r [o 47 (.mv (.t 45)),o 48 (.ixA 16 (.t 43) (.t 45)),o 49 (.ld (some 16) (.t 48)),o 11 (.alloc zM),o 10 (.mv (.t 47)),z (.st 16 (.t 11) (.t 49))] [1,4,6,9,10,11,43,44,45]) (.seq (r [o 51 (.mv (.t 1)),o 52 (.mv (.t 10)),o 53 (.ixA 1 (.t 51) (.t 52)),o 54 (.ld none (.t 53)),o 55 (.mv (.t 6)),o 56 (.call 124 [(.t 54),(.t 55)]),o 50 (.mv (.t 56)),o 57 (.ext (.t 50) 0),o 58 (.ext (.t 50) 1),o 12 (.alloc zR),z (.st 3 (.t 12) (.t 57)),o 13 (.mv (.t 58))] [1,4,6,9,11,12,43,44,45]) (r [o 59 (.ld (some 16) (.t 9)),o 60 (.ld (some 16) (.t 11)),o 61 (.ld (some 3) (.t 12)),o 62 (.callF 83 [(.t 60),(.t 61)]),o 63 (.callXF 127 [(.t 59),(.t 62)]),z (.st 16 (.t 9) (.t 63))] [1,4,6,9,43,44,45])))) (r [o 64 (.bin .add (.t 45) (i 1)),o 45 (.mv (.t 64))] [1,4,6,9,43,44,45]))))))) (.seq (r [o 65 (.ld (some 16) (.t 9)),o 66 (.call 128 [(.t 65)]),z (.st 16 (.t 4) (.t 66)),o 5 (.mv (i 0))] [4,5]) .ret))))))),[.cell 4 (some 16),.t 5]⟩
theorem weights_Mix_ok : cFn Tryz.prog (kps [[0,1,4],[0,1,4,6],[0,1,4,6,23],[4,5],[0,1,4,6,25,26,27],[0,1,4,6,25,26,27,28],[0,1,4,6,8,25,26,27],[0,1,4,6,8,25,26,27,36],[4,5],[0,1,4,6,25,26,27],[0,1,4,6,25,26,27],[0,1,4,6,9],[1,4,6,9,43,44,45],[1,4,6,9,43,44,45,46],[1,4,6,9,10,11,43,44,45],[1,4,6,9,11,12,43,44,45],[1,4,6,9,43,44,45],[1,4,6,9,43,44,45],[4,5]]) [1280016] 77 = some weights_Mix_c := by kernel_rfl
abbrev weights_Answer : Nat := 86
def weights_Answer_c : MFn := ⟨24,(.seq (r [o 1 (.box (.t 0)),o 2 (.mv (.c .nils)),o 3 (.mv (i 0))] [1]) (.seq (r [o 7 (.ld (some 16) (.t 1)),o 8 (.call 111 [(.t 7)]),o 4 (.alloc zR),z (.st 3 (.t 4) (.t 8))] [1,4]) (.seq (.seq (r [o 9 (.ld (some 3) (.t 4)),o 10 (.call 36 [(.t 9)]),o 11 (.bin .eql (.t 10) (i 0))] [1,4,11]) (.cond (.t 11) (.seq (r [o 2 (.mv (.c .nils)),o 3 (.mv (i 31))] [2,3]) .ret) .skip)) (.seq (r [o 13 (.callF 48 []),o 14 (.ld (some 3) (.t 4)),o 15 (.callF 43 [(.t 13),(.t 14)]),o 12 (.mv (.t 15)),o 16 (.ext (.t 12) 0),o 17 (.ext (.t 12) 1),o 5 (.alloc zR),z (.st 3 (.t 5) (.t 16)),o 6 (.mv (.t 17))] [1,5]) (.seq (r [o 18 (.fA 0 (.t 1)),o 19 (.ld none (.t 18)),o 20 (.build zM [(0,1,(.t 19))]),o 21 (.ld (some 3) (.t 5)),o 22 (.call 83 [(.t 20),(.t 21)]),o 23 (.fld 0 none (.t 22)),o 2 (.mv (.t 23)),o 3 (.mv (i 0))] [2,3]) .ret))))),[.t 2,.t 3]⟩
theorem weights_Answer_ok : cFn Tryz.prog (kps [[1],[1,4],[1,4,11],[2,3],[1,5],[2,3]]) [] 86 = some weights_Answer_c := by kernel_rfl
abbrev weights_Bounds : Nat := 91
def weights_Bounds_c : MFn := ⟨43,(.seq (r [o 2 (.box (.t 0)),o 3 (.box (.t 1)),o 4 (.alloc zR),o 5 (.alloc zR),o 6 (.mv (i 0))] [2,3,4,5]) (.seq (r [o 13 (.ld (some 16) (.t 2)),o 14 (.callF 111 [(.t 13)]),o 15 (.fA 4 (.t 2)),o 16 (.ld (some 3) (.t 15)),o 17 (.callF 40 [(.t 14),(.t 16)]),o 18 (.ld (some 16) (.t 2)),o 19 (.ld (some 3) (.t 3)),o 20 (.callF 118 [(.t 18),(.t 19)]),o 7 (.alloc zR),o 8 (.alloc zR),z (.st 3 (.t 7) (.t 17)),z (.st 3 (.t 8) (.t 20))] [2,4,5,7,8]) (.seq (r [o 22 (.ld (some 3) (.t 8)),o 23 (.ld (some 3) (.t 7)),o 24 (.call 43 [(.t 22),(.t 23)]),o 21 (.mv (.t 24)),o 25 (.ext (.t 21) 0),o 26 (.ext (.t 21) 1),o 9 (.alloc zR),z (.st 3 (.t 9) (.t 25)),o 10 (.mv (.t 26))] [2,4,5,7,8,9,10]) (.seq (.seq (r [o 27 (.mv (.t 10)),o 28 (.bin .neq (.t 27) (i 0))] [2,4,5,7,8,9,10,28]) (.cond (.t 28) (.seq (r [o 29 (.build zR []),o 30 (.build zR []),o 31 (.mv (.t 10)),z (.st 3 (.t 4) (.t 29)),z (.st 3 (.t 5) (.t 30)),o 6 (.mv (.t 31))] [4,5,6]) .ret) .skip)) (.seq (r [o 33 (.ld (some 3) (.t 8)),o 34 (.fA 4 (.t 2)),o 35 (.ld (some 3) (.t 34)),o 36 (.callF 40 [(.t 33),(.t 35)]),o 37 (.ld (some 3) (.t 7)),o 38 (.callF 43 [(.t 36),(.t 37)]),o 32 (.mv (.t 38)),o 39 (.ext (.t 32) 0),o 40 (.ext (.t 32) 1),o 11 (.alloc zR),z (.st 3 (.t 11) (.t 39)),o 12 (.mv (.t 40))] [4,5,9,11]) (.seq (r [o 41 (.ld (some 3) (.t 9)),o 42 (.ld (some 3) (.t 11)),z (.stA 3 (.t 4) (.t 41) [11]),z (.st 3 (.t 5) (.t 42)),o 6 (.mv (i 0))] [4,5,6]) .ret)))))),[.cell 4 (some 3),.cell 5 (some 3),.t 6]⟩
theorem weights_Bounds_ok : cFn Tryz.prog (kps [[2,3,4,5],[2,4,5,7,8],[2,4,5,7,8,9,10],[2,4,5,7,8,9,10,28],[4,5,6],[4,5,9,11],[4,5,6]]) [] 91 = some weights_Bounds_c := by kernel_rfl
abbrev weights_Text : Nat := 96
def weights_Text_c : MFn := ⟨69,(.seq (r [o 1 (.box (.t 0)),o 2 (.mv (.c (.str ⟨#[]⟩)))] [1]) (.seq (r [o 8 (.ld (some 16) (.t 1)),o 9 (.call 128 [(.t 8)]),z (.st 16 (.t 1) (.t 9))] [1]) (.seq (r [o 3 (.mv (.c (.str ⟨#[]⟩)))] [1,3]) (.seq (.seq (r [o 10 (.fA 0 (.t 1)),o 11 (.ld none (.t 10)),o 12 (.lenS (.t 11)),o 13 (.mv (i 0))] [1,3,11,12,13]) (.block 0 (.loop (.seq (r [o 14 (.bin .lss (.t 13) (.t 12))] [1,3,11,12,13,14]) (.seq (.cond (.t 14) .skip (.exit 0)) (.seq (.block 1 (.seq (r [o 15 (.ixA 6 (.t 11) (.t 13)),o 16 (.ld (some 6) (.t 15)),o 5 (.alloc zP),z (.st 6 (.t 5) (.t 16))] [1,3,5,11,12,13]) (r [o 17 (.mv (.t 3)),o 18 (.fA 0 (.t 5)),o 19 (.ld (some 3) (.t 18)),o 20 (.callF 142 [(.t 19)]),o 21 (.binT .add (.t 20) (.c (.str ⟨#[58,32]⟩))),o 22 (.fA 3 (.t 5)),o 23 (.ld (some 3) (.t 22)),o 24 (.callF 76 [(.t 23)]),o 25 (.binT .add (.t 21) (.t 24)),o 26 (.binT .add (.t 25) (.c (.str ⟨#[10]⟩))),o 27 (.binT .add (.t 17) (.t 26)),o 3 (.mv (.t 27))] [1,3,11,12,13]))) (r [o 28 (.bin .add (.t 13) (i 1)),o 13 (.mv (.t 28))] [1,3,11,12,13]))))))) (.seq (.seq (r [o 29 (.fA 1 (.t 1)),o 30 (.ld (some 3) (.t 29)),o 31 (.build [.str ⟨#[]⟩,.bool false,.nils,.nils] [(0,1,(.c (.str ⟨#[114,101,102,117,115,101,100]⟩))),(1,3,(.t 30))]),o 32 (.fA 4 (.t 1)),o 33 (.ld (some 3) (.t 32)),o 34 (.build [.str ⟨#[]⟩,.bool false,.nils,.nils] [(0,1,(.c (.str ⟨#[108,111,115,116]⟩))),(1,3,(.t 33))]),o 35 (.fA 7 (.t 1)),o 36 (.ixArr 3 3 (.t 35) (i 0)),o 37 (.ld (some 3) (.t 36)),o 38 (.build [.str ⟨#[]⟩,.bool false,.nils,.nils] [(0,1,(.c (.str ⟨#[111,118,101,114]⟩))),(1,3,(.t 37))]),o 39 (.fA 7 (.t 1)),o 40 (.ixArr 3 3 (.t 39) (i 1)),o 41 (.ld (some 3) (.t 40)),o 42 (.build [.str ⟨#[]⟩,.bool false,.nils,.nils] [(0,1,(.c (.str ⟨#[122,101,114,111]⟩))),(1,3,(.t 41))]),o 43 (.fA 7 (.t 1)),o 44 (.ixArr 3 3 (.t 43) (i 2)),o 45 (.ld (some 3) (.t 44)),o 46 (.build [.str ⟨#[]⟩,.bool false,.nils,.nils] [(0,1,(.c (.str ⟨#[108,111,110,103]⟩))),(1,3,(.t 45))]),o 47 (.buildSl 4 5 [.str ⟨#[]⟩,.bool false,.nils,.nils] [(0,(.t 31)),(1,(.t 34)),(2,(.t 38)),(3,(.t 42)),(4,(.t 46))]),o 48 (.lenS (.t 47)),o 49 (.mv (i 0))] [3,47,48,49]) (.block 2 (.loop (.seq (r [o 50 (.bin .lss (.t 49) (.t 48))] [3,47,48,49,50]) (.seq (.cond (.t 50) .skip (.exit 2)) (.seq (.block 3 (.seq (r [o 51 (.ixA 4 (.t 47) (.t 49)),o 52 (.ld (some 4) (.t 51)),o 7 (.alloc [.str ⟨#[]⟩,.bool false,.nils,.nils]),z (.st 4 (.t 7) (.t 52))] [3,7,47,48,49]) (.seq (r [o 53 (.fA 1 (.t 7)),o 54 (.ld (some 3) (.t 53)),o 55 (.call 36 [(.t 54)]),o 56 (.bin .neq (.t 55) (i 0))] [3,7,47,48,49,56]) (.cond (.t 56) (r [o 57 (.mv (.t 3)),o 58 (.fA 0 (.t 7)),o 59 (.ld none (.t 58)),o 60 (.binT .add (.t 59) (.c (.str ⟨#[58,32]⟩))),o 61 (.fA 1 (.t 7)),o 62 (.ld (some 3) (.t 61)),o 63 (.callF 76 [(.t 62)]),o 64 (.binT .add (.t 60) (.t 63)),o 65 (.binT .add (.t 64) (.c (.str ⟨#[10]⟩))),o 66 (.binT .add (.t 57) (.t 65)),o 3 (.mv (.t 66))] [3,47,48,49]) .skip)))) (r [o 67 (.bin .add (.t 49) (i 1)),o 49 (.mv (.t 67))] [3,47,48,49]))))))) (.seq (r [o 68 (.mv (.t 3)),o 2 (.mv (.t 68))] [2]) .ret)))))),[.t 2]⟩
theorem weights_Text_ok : cFn Tryz.prog (kps [[1],[1],[1,3],[1,3,11,12,13],[1,3,11,12,13,14],[1,3,5,11,12,13],[1,3,11,12,13],[1,3,11,12,13],[3,47,48,49],[3,47,48,49,50],[3,7,47,48,49],[3,7,47,48,49,56],[3,47,48,49],[3,47,48,49],[2]]) [] 96 = some weights_Text_c := by kernel_rfl
abbrev weights_Right : Nat := 104
def weights_Right_c : MFn := ⟨66,(.seq (r [o 1 (.box (.t 0)),o 2 (.mv (.c (.bool false)))] [1]) (.seq (.seq (r [o 7 (.fA 0 (.t 1)),o 8 (.ld none (.t 7)),o 9 (.lenS (.t 8)),o 10 (.mv (i 0))] [1,8,9,10]) (.block 0 (.loop (.seq (r [o 11 (.bin .lss (.t 10) (.t 9))] [1,8,9,10,11]) (.seq (.cond (.t 11) .skip (.exit 0)) (.seq (.block 1 (.seq (r [o 12 (.mv (.t 10)),o 13 (.ixA 6 (.t 8) (.t 10)),o 14 (.ld (some 6) (.t 13)),o 4 (.alloc zP),o 3 (.mv (.t 12)),z (.st 6 (.t 4) (.t 14))] [1,3,4,8,9,10]) (.seq (r [o 15 (.fA 0 (.t 4)),o 16 (.ld (some 3) (.t 15)),o 17 (.callF 153 [(.t 16)]),o 18 (.un .not (.t 17)),o 19 (.mv (.t 18)),n 20 19 (.fA 3 (.t 4)),n 21 19 (.ld (some 3) (.t 20)),n 22 19 (.callF 154 [(.t 21)]),n 23 19 (.un .not (.t 22)),o 24 (.pick (.t 19) (.c (.bool true)) (.t 23)),o 25 (.mv (.t 24)),n 26 25 (.fA 3 (.t 4)),n 27 25 (.ld (some 3) (.t 26)),n 28 25 (.callF 36 [(.t 27)]),n 29 25 (.bin .eql (.t 28) (i 0)),o 30 (.pick (.t 25) (.c (.bool true)) (.t 29)),o 31 (.mv (.t 30)),n 32 31 (.mv (.t 3)),n 33 31 (.bin .gtr (.t 32) (i 0)),n 34 31 (.mv (.t 33)),y 35 34 (.fA 0 (.t 1)),y 36 34 (.ld none (.t 35)),y 37 34 (.mv (.t 3)),y 38 34 (.bin .sub (.t 37) (i 1)),y 39 34 (.ixA 6 (.t 36) (.t 38)),y 40 34 (.fA 0 (.t 39)),y 41 34 (.ld (some 3) (.t 40)),y 42 34 (.fA 0 (.t 4)),y 43 34 (.ld (some 3) (.t 42)),y 44 34 (.callF 155 [(.t 41),(.t 43)]),y 45 34 (.bin .geq (.t 44) (i 0)),n 46 31 (.pick (.t 34) (.t 45) (.c (.bool false))),o 47 (.pick (.t 31) (.c (.bool true)) (.t 46))] [1,8,9,10,47]) (.cond (.t 47) (.seq (r [o 2 (.mv (.c (.bool false)))] [2]) .ret) .skip)))) (r [o 48 (.bin .add (.t 10) (i 1)),o 10 (.mv (.t 48))] [1,8,9,10]))))))) (.seq (.seq (r [o 49 (.fA 7 (.t 1)),o 50 (.ld (some 9) (.t 49)),o 51 (.mv (i 0))] [1,50,51]) (.block 2 (.loop (.seq (r [o 52 (.bin .lss (.t 51) (i 3))] [1,50,51,52]) (.seq (.cond (.t 52) .skip (.exit 2)) (.seq (.block 3 (.seq (r [o 53 (.ix 3 3 (some 3) (.t 50) (.t 51)),o 6 (.alloc zR),z (.st 3 (.t 6) (.t 53))] [1,6,50,51]) (.seq (r [o 54 (.ld (some 3) (.t 6)),o 55 (.call 154 [(.t 54)]),o 56 (.un .not (.t 55))] [1,50,51,56]) (.cond (.t 56) (.seq (r [o 2 (.mv (.c (.bool false)))] [2]) .ret) .skip)))) (r [o 57 (.bin .add (.t 51) (i 1)),o 51 (.mv (.t 57))] [1,50,51]))))))) (.seq (r [o 58 (.fA 1 (.t 1)),o 59 (.ld (some 3) (.t 58)),o 60 (.call 154 [(.t 59)]),o 61 (.mv (.t 60)),y 62 61 (.fA 4 (.t 1)),y 63 61 (.ld (some 3) (.t 62)),y 64 61 (.call 154 [(.t 63)]),o 65 (.pick (.t 61) (.t 64) (.c (.bool false))),o 2 (.mv (.t 65))] [2]) .ret)))),[.t 2]⟩
theorem weights_Right_ok : cFn Tryz.prog (kps [[1],[1,8,9,10],[1,8,9,10,11],[1,3,4,8,9,10],[1,8,9,10,47],[2],[1,8,9,10],[1,50,51],[1,50,51,52],[1,6,50,51],[1,50,51,56],[2],[1,50,51],[2]]) [] 104 = some weights_Right_c := by kernel_rfl
abbrev weights_Total : Nat := 110
def weights_Total_c : MFn := ⟨15,(.seq (r [o 1 (.box (.t 0)),o 2 (.alloc zR)] [1,2]) (.seq (r [o 3 (.ld (some 16) (.t 1)),o 4 (.callF 111 [(.t 3)]),o 5 (.fA 7 (.t 1)),o 6 (.rd2 (.arr 3 3) [(.t 5)]),o 7 (.callF 157 [(.t 6)]),o 8 (.callF 40 [(.t 4),(.t 7)]),o 9 (.fA 1 (.t 1)),o 10 (.ld (some 3) (.t 9)),o 11 (.fA 4 (.t 1)),o 12 (.ld (some 3) (.t 11)),o 13 (.callF 40 [(.t 10),(.t 12)]),o 14 (.callF 40 [(.t 8),(.t 13)]),z (.st 3 (.t 2) (.t 14))] [2]) .ret)),[.cell 2 (some 3)]⟩
theorem weights_Total_ok : cFn Tryz.prog (kps [[1,2],[2]]) [] 110 = some weights_Total_c := by kernel_rfl
abbrev weights_Values : Nat := 111
def weights_Values_c : MFn := ⟨20,(.seq (r [o 1 (.box (.t 0)),o 2 (.alloc zR)] [1,2]) (.seq (r [o 6 (.call 45 []),o 3 (.alloc zR),z (.st 3 (.t 3) (.t 6))] [1,2,3]) (.seq (.seq (r [o 7 (.fA 0 (.t 1)),o 8 (.ld none (.t 7)),o 9 (.lenS (.t 8)),o 10 (.mv (i 0))] [2,3,8,9,10]) (.block 0 (.loop (.seq (r [o 11 (.bin .lss (.t 10) (.t 9))] [2,3,8,9,10,11]) (.seq (.cond (.t 11) .skip (.exit 0)) (.seq (.block 1 (.seq (r [o 12 (.ixA 6 (.t 8) (.t 10)),o 13 (.ld (some 6) (.t 12)),o 5 (.alloc zP),z (.st 6 (.t 5) (.t 13))] [2,3,5,8,9,10]) (r [o 14 (.ld (some 3) (.t 3)),o 15 (.fA 3 (.t 5)),o 16 (.ld (some 3) (.t 15)),o 17 (.call 40 [(.t 14),(.t 16)]),z (.st 3 (.t 3) (.t 17))] [2,3,8,9,10]))) (r [o 18 (.bin .add (.t 10) (i 1)),o 10 (.mv (.t 18))] [2,3,8,9,10]))))))) (.seq (r [o 19 (.ld (some 3) (.t 3)),z (.st 3 (.t 2) (.t 19))] [2]) .ret)))),[.cell 2 (some 3)]⟩
theorem weights_Values_ok : cFn Tryz.prog (kps [[1,2],[1,2,3],[2,3,8,9,10],[2,3,8,9,10,11],[2,3,5,8,9,10],[2,3,8,9,10],[2,3,8,9,10],[2]]) [] 111 = some weights_Values_c := by kernel_rfl
abbrev weights_Of : Nat := 114
def weights_Of_c : MFn := ⟨43,(.seq (r [o 2 (.box (.t 0)),o 3 (.box (.t 1)),o 4 (.alloc zM)] [2,3,4]) (.seq (r [o 6 (.call 105 []),o 5 (.alloc zM),z (.st 16 (.t 5) (.t 6))] [2,3,4,5]) (.seq (.seq (r [o 7 (.fA 0 (.t 2)),o 8 (.ld none (.t 7))] [2,3,4,5,8]) (.block 0 (.seq (r [o 10 (.bin .eql (.t 8) (i 0)),o 9 (.mv (.t 10))] [2,3,4,5,8,9]) (.cond (.t 9) (r [o 11 (.fA 2 (.t 2)),o 12 (.ld (some 3) (.t 11)),o 13 (.ld (some 3) (.t 3)),o 14 (.build zP [(0,3,(.t 12)),(3,3,(.t 13))]),o 15 (.buildSl 6 1 zP [(0,(.t 14))]),o 16 (.fA 0 (.t 5)),z (.st 1 (.t 16) (.t 15))] [4,5]) (.seq (r [o 18 (.bin .eql (.t 8) (i 1)),o 17 (.mv (.t 18))] [2,3,4,5,8,17]) (.cond (.t 17) (r [o 19 (.ld (some 3) (.t 3)),o 20 (.fA 1 (.t 5)),z (.st 3 (.t 20) (.t 19))] [4,5]) (.seq (r [o 22 (.bin .eql (.t 8) (i 2)),o 21 (.mv (.t 22))] [2,3,4,5,8,21]) (.cond (.t 21) (r [o 23 (.ld (some 3) (.t 3)),o 24 (.fA 4 (.t 5)),z (.st 3 (.t 24) (.t 23))] [4,5]) (.seq (r [o 26 (.bin .eql (.t 8) (i 3)),o 25 (.mv (.t 26))] [2,3,4,5,25]) (.cond (.t 25) (.seq (r [o 27 (.fA 1 (.t 2)),o 28 (.ld none (.t 27)),o 29 (.bin .geq (.t 28) (i 1)),o 30 (.mv (.t 29)),y 31 30 (.fA 1 (.t 2)),y 32 30 (.ld none (.t 31)),y 33 30 (.bin .leq (.t 32) (i 3)),o 34 (.pick (.t 30) (.t 33) (.c (.bool false)))] [2,3,4,5,34]) (.cond (.t 34) (r [o 35 (.fA 1 (.t 2)),o 36 (.ld none (.t 35)),o 37 (.bin .sub (.t 36) (i 1)),o 38 (.ld (some 3) (.t 3)),o 39 (.fA 7 (.t 5)),o 40 (.ixArr 3 3 (.t 39) (.t 37)),z (.st 3 (.t 40) (.t 38))] [4,5]) .skip)) .skip)))))))))) (.seq (r [o 41 (.ld (some 16) (.t 5)),o 42 (.call 128 [(.t 41)]),z (.st 16 (.t 4) (.t 42))] [4]) .ret)))),[.cell 4 (some 16)]⟩
theorem weights_Of_ok : cFn Tryz.prog (kps [[2,3,4],[2,3,4,5],[2,3,4,5,8],[2,3,4,5,8,9],[4,5],[2,3,4,5,8,17],[4,5],[2,3,4,5,8,21],[4,5],[2,3,4,5,25],[2,3,4,5,34],[4,5],[4]]) [] 114 = some weights_Of_c := by kernel_rfl
abbrev weights_Weight : Nat := 118
def weights_Weight_c : MFn := ⟨26,(.seq (r [o 2 (.box (.t 0)),o 3 (.box (.t 1)),o 4 (.alloc zR)] [2,3,4]) (.seq (r [o 8 (.call 45 []),o 5 (.alloc zR),z (.st 3 (.t 5) (.t 8))] [2,3,4,5]) (.seq (.seq (r [o 9 (.fA 0 (.t 2)),o 10 (.ld none (.t 9)),o 11 (.lenS (.t 10)),o 12 (.mv (i 0))] [3,4,5,10,11,12]) (.block 0 (.loop (.seq (r [o 13 (.bin .lss (.t 12) (.t 11))] [3,4,5,10,11,12,13]) (.seq (.cond (.t 13) .skip (.exit 0)) (.seq (.block 1 (.seq (r [o 14 (.ixA 6 (.t 10) (.t 12)),o 15 (.ld (some 6) (.t 14)),o 7 (.alloc zP),z (.st 6 (.t 7) (.t 15))] [3,4,5,7,10,11,12]) (.seq (r [o 16 (.fA 0 (.t 7)),o 17 (.ld (some 3) (.t 16)),o 18 (.ld (some 3) (.t 3)),o 19 (.call 140 [(.t 17),(.t 18)])] [3,4,5,7,10,11,12,19]) (.cond (.t 19) (r [o 20 (.ld (some 3) (.t 5)),o 21 (.fA 3 (.t 7)),o 22 (.ld (some 3) (.t 21)),o 23 (.call 40 [(.t 20),(.t 22)]),z (.st 3 (.t 5) (.t 23))] [3,4,5,10,11,12]) .skip)))) (r [o 24 (.bin .add (.t 12) (i 1)),o 12 (.mv (.t 24))] [3,4,5,10,11,12]))))))) (.seq (r [o 25 (.ld (some 3) (.t 5)),z (.st 3 (.t 4) (.t 25))] [4]) .ret)))),[.cell 4 (some 3)]⟩
theorem weights_Weight_ok : cFn Tryz.prog (kps [[2,3,4],[2,3,4,5],[3,4,5,10,11,12],[3,4,5,10,11,12,13],[3,4,5,7,10,11,12],[3,4,5,7,10,11,12,19],[3,4,5,10,11,12],[3,4,5,10,11,12],[4]]) [] 118 = some weights_Weight_c := by kernel_rfl
abbrev ratio_Make : Nat := 124
def ratio_Make_c : MFn := ⟨18,(.seq (r [o 4 (.alloc zR),o 5 (.mv (i 0))] [0,1,4]) (.seq (r [o 6 (.mv (.t 0)),o 7 (.bin .lss (.t 6) (i 0)),o 8 (.mv (.t 1)),o 9 (.bin .lss (.t 8) (i 0)),o 10 (.binB .neq (.t 7) (.t 9)),o 11 (.mv (.t 0)),o 12 (.call 161 [(.t 11)]),o 13 (.mv (.t 1)),o 14 (.call 161 [(.t 13)]),o 15 (.call 156 [(.t 10),(.t 12),(.t 14)]),o 16 (.ext (.t 15) 0),o 17 (.ext (.t 15) 1),z (.st 3 (.t 4) (.t 16)),o 5 (.mv (.t 17))] [4,5]) .ret)),[.cell 4 (some 3),.t 5]⟩
theorem ratio_Make_ok : cFn Tryz.prog (kps [[0,1,4],[4,5]]) [] 124 = some ratio_Make_c := by kernel_rfl
abbrev nat_Text : Nat := 125
def nat_Text_c : MFn := ⟨45,(.seq (r [o 2 (.mv (.c (.str ⟨#[]⟩)))] [0]) (.seq (r [o 6 (.mv (.t 0)),o 7 (.call 152 [(.t 6)]),o 0 (.mv (.t 7))] [0]) (.seq (.seq (r [o 8 (.mv (.t 0)),o 9 (.lenS (.t 8)),o 10 (.bin .eql (.t 9) (i 0))] [0,10]) (.cond (.t 10) (.seq (r [o 2 (.mv (.c (.str ⟨#[48]⟩)))] [2]) .ret) .skip)) (.seq (r [o 3 (.mv (.c .nils))] [0,3]) (.seq (.block 0 (.loop (.seq (.seq (r [o 11 (.mv (.t 0)),o 12 (.lenS (.t 11)),o 13 (.bin .gtr (.t 12) (i 0))] [0,3,13]) (.cond (.t 13) .skip (.exit 0))) (.block 1 (.seq (r [o 4 (.mv (.c (.int .u32 0)))] [0,3]) (.seq (r [o 15 (.mv (.t 0)),o 16 (.call 162 [(.t 15),(.c (.int .u32 1000000000))]),o 14 (.mv (.t 16)),o 17 (.ext (.t 14) 0),o 18 (.ext (.t 14) 1),o 0 (.mv (.t 17)),o 4 (.mv (.t 18))] [0,3,4]) (.seq (r [o 5 (.mv (i 0))] [0,3,4,5]) (.block 2 (.loop (.seq (.seq (r [o 19 (.mv (.t 5)),o 20 (.bin .lss (.t 19) (i 9)),o 21 (.mv (.t 20)),y 22 21 (.mv (.t 0)),y 23 21 (.lenS (.t 22)),y 24 21 (.bin .gtr (.t 23) (i 0)),y 25 21 (.mv (.t 24)),n 26 25 (.mv (.t 4)),n 27 25 (.bin .gtr (.t 26) (.c (.int .u32 0))),y 28 21 (.pick (.t 25) (.c (.bool true)) (.t 27)),o 29 (.pick (.t 21) (.t 28) (.c (.bool false)))] [0,3,4,5,29]) (.cond (.t 29) .skip (.exit 2))) (.seq (.block 3 (.seq (r [o 32 (.mv (.t 3)),o 33 (.mv (.t 4)),o 34 (.bin .rem (.t 33) (.c (.int .u32 10))),o 35 (.bin .add (.c (.int .u32 48)) (.t 34)),o 36 (.cvt .u8 (.t 35)),o 37 (.buildSl 1 1 [.int .u8 0] [(0,(.t 36))]),o 38 (.app 1 1 (.t 32) (.t 37)),o 3 (.mv (.t 38))] [0,3,4,5]) (r [o 39 (.mv (.t 4)),o 40 (.bin .quo (.t 39) (.c (.int .u32 10))),o 4 (.mv (.t 40))] [0,3,4,5]))) (r [o 30 (.mv (.t 5)),o 31 (.bin .add (.t 30) (i 1)),o 5 (.mv (.t 31))] [0,3,4,5])))))))))))) (.seq (r [o 41 (.mv (.t 3)),o 42 (.call 163 [(.t 41)])] [3]) (.seq (r [o 43 (.mv (.t 3)),o 44 (.strB (.t 43)),o 2 (.mv (.t 44))] [2]) .ret))))))),[.t 2]⟩
theorem nat_Text_ok : cFn Tryz.prog (kps [[0],[0],[0,10],[2],[0,3],[0,3,13],[0,3],[0,3,4],[0,3,4,5],[0,3,4,5,29],[0,3,4,5],[0,3,4,5],[0,3,4,5],[3],[2]]) [] 125 = some nat_Text_c := by kernel_rfl
abbrev nat_Small : Nat := 126
def nat_Small_c : MFn := ⟨28,(.seq (r [o 2 (.mv (.c (.int .u64 0))),o 3 (.mv (.c (.bool false)))] [0]) (.seq (r [o 4 (.mv (.t 0)),o 5 (.call 152 [(.t 4)]),o 0 (.mv (.t 5))] [0]) (.seq (.seq (r [o 6 (.mv (.t 0)),o 7 (.lenS (.t 6))] [0,7]) (.block 0 (.seq (r [o 9 (.bin .eql (.t 7) (i 0)),o 8 (.mv (.t 9))] [0,7,8]) (.cond (.t 8) (.seq (r [o 2 (.mv (.c (.int .u64 0))),o 3 (.mv (.c (.bool true)))] [2,3]) .ret) (.seq (r [o 11 (.bin .eql (.t 7) (i 1)),o 10 (.mv (.t 11))] [0,7,10]) (.cond (.t 10) (.seq (r [o 12 (.mv (.t 0)),o 13 (.ixA 1 (.t 12) (i 0)),o 14 (.ld none (.t 13)),o 15 (.cvt .u64 (.t 14)),o 2 (.mv (.t 15)),o 3 (.mv (.c (.bool true)))] [2,3]) .ret) (.seq (r [o 17 (.bin .eql (.t 7) (i 2)),o 16 (.mv (.t 17))] [0,16]) (.cond (.t 16) (.seq (r [o 18 (.mv (.t 0)),o 19 (.ixA 1 (.t 18) (i 0)),o 20 (.ld none (.t 19)),o 21 (.cvt .u64 (.t 20)),o 22 (.mv (.t 0)),o 23 (.ixA 1 (.t 22) (i 1)),o 24 (.ld none (.t 23)),o 25 (.cvt .u64 (.t 24)),o 26 (.bin .shl (.t 25) (.c (.int .u64 32))),o 27 (.bin .or (.t 21) (.t 26)),o 2 (.mv (.t 27)),o 3 (.mv (.c (.bool true)))] [2,3]) .ret) .skip)))))))) (.seq (r [o 2 (.mv (.c (.int .u64 0))),o 3 (.mv (.c (.bool false)))] [2,3]) .ret)))),[.t 2,.t 3]⟩
theorem nat_Small_ok : cFn Tryz.prog (kps [[0],[0],[0,7],[0,7,8],[2,3],[0,7,10],[2,3],[0,16],[2,3],[2,3]]) [] 126 = some nat_Small_c := by kernel_rfl
abbrev value_Text : Nat := 142
def value_Text_c : MFn := ⟨45,(.seq (r [o 1 (.box (.t 0)),o 2 (.mv (.c (.str ⟨#[]⟩)))] [1]) (.seq (r [o 3 (.mv (.c .nils))] [1,3]) (.seq (.seq (r [o 7 (.fA 2 (.t 1)),o 8 (.ld none (.t 7)),o 9 (.lenS (.t 8)),o 10 (.mv (i 0))] [1,3,8,9,10]) (.block 0 (.loop (.seq (r [o 11 (.bin .lss (.t 10) (.t 9))] [1,3,8,9,10,11]) (.seq (.cond (.t 11) .skip (.exit 0)) (.seq (.block 1 (.seq (r [o 12 (.ixA 3 (.t 8) (.t 10)),o 13 (.ld (some 3) (.t 12)),o 5 (.alloc zV),z (.st 3 (.t 5) (.t 13))] [1,3,5,8,9,10]) (r [o 14 (.mv (.t 3)),o 15 (.ld (some 3) (.t 5)),o 16 (.call 142 [(.t 15)]),o 17 (.buildSl 1 1 [.str ⟨#[]⟩] [(0,(.t 16))]),o 18 (.app 1 16 (.t 14) (.t 17)),o 3 (.mv (.t 18))] [1,3,8,9,10]))) (r [o 19 (.bin .add (.t 10) (i 1)),o 10 (.mv (.t 19))] [1,3,8,9,10]))))))) (.seq (r [o 20 (.mv (.t 3)),o 21 (.call 173 [(.t 20),(.c (.str ⟨#[44,32]⟩))]),o 6 (.mv (.t 21))] [1,6]) (.seq (.seq (r [o 22 (.fA 0 (.t 1)),o 23 (.ld none (.t 22))] [1,6,23]) (.block 2 (.seq (r [o 25 (.bin .eql (.t 23) (i 1)),o 24 (.mv (.t 25))] [1,6,23,24]) (.cond (.t 24) (.seq (r [o 26 (.fA 1 (.t 1)),o 27 (.ld none (.t 26)),o 28 (.bin .neq (.t 27) (i 0)),o 29 (.call 174 [(.t 28)]),o 2 (.mv (.t 29))] [2]) .ret) (.seq (r [o 31 (.bin .eql (.t 23) (i 2)),o 30 (.mv (.t 31))] [1,6,23,30]) (.cond (.t 30) (.seq (r [o 32 (.fA 1 (.t 1)),o 33 (.ld none (.t 32)),o 34 (.call 175 [(.t 33)]),o 2 (.mv (.t 34))] [2]) .ret) (.seq (r [o 36 (.bin .eql (.t 23) (i 3)),o 35 (.mv (.t 36))] [6,23,35]) (.cond (.t 35) (.seq (r [o 37 (.mv (.t 6)),o 38 (.binT .add (.c (.str ⟨#[40]⟩)) (.t 37)),o 39 (.binT .add (.t 38) (.c (.str ⟨#[41]⟩))),o 2 (.mv (.t 39))] [2]) .ret) (.seq (r [o 41 (.bin .eql (.t 23) (i 4)),o 40 (.mv (.t 41))] [6,40]) (.cond (.t 40) (.seq (r [o 42 (.mv (.t 6)),o 43 (.binT .add (.c (.str ⟨#[91]⟩)) (.t 42)),o 44 (.binT .add (.t 43) (.c (.str ⟨#[93]⟩))),o 2 (.mv (.t 44))] [2]) .ret) .skip)))))))))) (.seq (r [o 2 (.mv (.c (.str ⟨#[63]⟩)))] [2]) .ret)))))),[.t 2]⟩
theorem value_Text_ok : cFn Tryz.prog (kps [[1],[1,3],[1,3,8,9,10],[1,3,8,9,10,11],[1,3,5,8,9,10],[1,3,8,9,10],[1,3,8,9,10],[1,6],[1,6,23],[1,6,23,24],[2],[1,6,23,30],[2],[6,23,35],[2],[6,40],[2],[2]]) [] 142 = some value_Text_c := by kernel_rfl
abbrev value_Right : Nat := 153
def value_Right_c : MFn := ⟨21,(.seq (r [o 1 (.box (.t 0)),o 2 (.mv (.c (.bool false)))] [1]) (.seq (r [o 6 (.ld (some 3) (.t 1)),o 7 (.call 184 [(.t 6),(i 40)]),o 5 (.mv (.t 7)),o 8 (.ext (.t 5) 0),o 9 (.ext (.t 5) 1),o 3 (.alloc [.int .i64 0,.nils]),z (.st 2 (.t 3) (.t 8)),o 4 (.mv (.t 9))] [1,3,4]) (.seq (r [o 10 (.mv (.t 4)),o 11 (.mv (.t 10)),y 12 11 (.ld (some 2) (.t 3)),y 13 11 (.call 186 [(.t 12)]),y 14 11 (.call 185 [(.t 13)]),o 15 (.pick (.t 11) (.t 14) (.c (.bool false))),o 16 (.mv (.t 15)),y 17 16 (.ld (some 3) (.t 1)),y 18 16 (.call 187 [(.t 17)]),y 19 16 (.bin .leq (.t 18) (i 1000)),o 20 (.pick (.t 16) (.t 19) (.c (.bool false))),o 2 (.mv (.t 20))] [2]) .ret))),[.t 2]⟩
theorem value_Right_ok : cFn Tryz.prog (kps [[1],[1,3,4],[2]]) [] 153 = some value_Right_c := by kernel_rfl
abbrev weights_fine : Nat := 154
def weights_fine_c : MFn := ⟨10,(.seq (r [o 1 (.box (.t 0)),o 2 (.mv (.c (.bool false)))] [1]) (.seq (r [o 3 (.ld (some 3) (.t 1)),o 4 (.call 188 [(.t 3)]),o 5 (.mv (.t 4)),y 6 5 (.fA 0 (.t 1)),y 7 5 (.ld none (.t 6)),y 8 5 (.un .not (.t 7)),o 9 (.pick (.t 5) (.t 8) (.c (.bool false))),o 2 (.mv (.t 9))] [2]) .ret)),[.t 2]⟩
theorem weights_fine_ok : cFn Tryz.prog (kps [[1],[2]]) [] 154 = some weights_fine_c := by kernel_rfl
abbrev ratio_Sum : Nat := 157
def ratio_Sum_c : MFn := ⟨18,(.seq (r [o 2 (.alloc zR)] [0,2]) (.seq (r [o 6 (.call 45 []),o 3 (.alloc zR),z (.st 3 (.t 3) (.t 6))] [0,2,3]) (.seq (.seq (r [o 7 (.mv (.t 0)),o 8 (.lenS (.t 7)),o 9 (.mv (i 0))] [2,3,7,8,9]) (.block 0 (.loop (.seq (r [o 10 (.bin .lss (.t 9) (.t 8))] [2,3,7,8,9,10]) (.seq (.cond (.t 10) .skip (.exit 0)) (.seq (.block 1 (.seq (r [o 11 (.ixA 3 (.t 7) (.t 9)),o 12 (.ld (some 3) (.t 11)),o 5 (.alloc zR),z (.st 3 (.t 5) (.t 12))] [2,3,5,7,8,9]) (r [o 13 (.ld (some 3) (.t 3)),o 14 (.ld (some 3) (.t 5)),o 15 (.call 40 [(.t 13),(.t 14)]),z (.st 3 (.t 3) (.t 15))] [2,3,7,8,9]))) (r [o 16 (.bin .add (.t 9) (i 1)),o 9 (.mv (.t 16))] [2,3,7,8,9]))))))) (.seq (r [o 17 (.ld (some 3) (.t 3)),z (.st 3 (.t 2) (.t 17))] [2]) .ret)))),[.cell 2 (some 3)]⟩
theorem ratio_Sum_ok : cFn Tryz.prog (kps [[0,2],[0,2,3],[2,3,7,8,9],[2,3,7,8,9,10],[2,3,5,7,8,9],[2,3,7,8,9],[2,3,7,8,9],[2]]) [] 157 = some ratio_Sum_c := by kernel_rfl
abbrev ratio_size : Nat := 161
def ratio_size_c : MFn := ⟨12,(.seq (r [o 2 (.mv (.c .nils))] [0]) (.seq (.seq (r [o 3 (.mv (.t 0)),o 4 (.bin .lss (.t 3) (i 0))] [0,4]) (.cond (.t 4) (.seq (r [o 5 (.mv (.t 0)),o 6 (.cvt .u64 (.t 5)),o 7 (.un .neg (.t 6)),o 8 (.call 112 [(.t 7)]),o 2 (.mv (.t 8))] [2]) .ret) .skip)) (.seq (r [o 9 (.mv (.t 0)),o 10 (.cvt .u64 (.t 9)),o 11 (.call 112 [(.t 10)]),o 2 (.mv (.t 11))] [2]) .ret))),[.t 2]⟩
theorem ratio_size_ok : cFn Tryz.prog (kps [[0],[0,4],[2],[2]]) [] 161 = some ratio_size_c := by kernel_rfl
abbrev slices_Reverse_Sbyte_byte : Nat := 163
def slices_Reverse_Sbyte_byte_c : MFn := ⟨28,(.seq (r [o 4 (.mv (.t 0)),o 5 (.lenS (.t 4)),o 6 (.bin .sub (.t 5) (i 1)),o 2 (.mv (i 0)),o 3 (.mv (.t 6))] [0,2,3]) (.block 0 (.loop (.seq (.seq (r [o 7 (.mv (.t 2)),o 8 (.mv (.t 3)),o 9 (.bin .lss (.t 7) (.t 8))] [0,2,3,9]) (.cond (.t 9) .skip (.exit 0))) (.seq (.block 1 (r [o 14 (.mv (.t 0)),o 15 (.mv (.t 2)),o 16 (.mv (.t 0)),o 17 (.mv (.t 3)),o 18 (.mv (.t 0)),o 19 (.mv (.t 3)),o 20 (.ixA 1 (.t 18) (.t 19)),o 21 (.ld none (.t 20)),o 22 (.mv (.t 0)),o 23 (.mv (.t 2)),o 24 (.ixA 1 (.t 22) (.t 23)),o 25 (.ld none (.t 24)),o 26 (.ixA 1 (.t 14) (.t 15)),z (.st 1 (.t 26) (.t 21)),o 27 (.ixA 1 (.t 16) (.t 17)),z (.st 1 (.t 27) (.t 25))] [0,2,3])) (r [o 10 (.mv (.t 2)),o 11 (.bin .add (.t 10) (i 1)),o 12 (.mv (.t 3)),o 13 (.bin .sub (.t 12) (i 1)),o 2 (.mv (.t 11)),o 3 (.mv (.t 13))] [0,2,3])))))),[]⟩
theorem slices_Reverse_Sbyte_byte_ok : cFn Tryz.prog (kps [[0,2,3],[0,2,3,9],[0,2,3],[0,2,3]]) [] 163 = some slices_Reverse_Sbyte_byte_c := by kernel_rfl
abbrev strings_Join : Nat := 173
def strings_Join_c : MFn := ⟨75,(.seq (r [o 4 (.mv (.c (.str ⟨#[]⟩)))] [0,1]) (.seq (.seq (r [o 11 (.mv (.t 0)),o 12 (.lenS (.t 11))] [0,1,12]) (.block 0 (.seq (r [o 14 (.bin .eql (.t 12) (i 0)),o 13 (.mv (.t 14))] [0,1,12,13]) (.cond (.t 13) (.seq (r [o 4 (.mv (.c (.str ⟨#[]⟩)))] [4]) .ret) (.seq (r [o 16 (.bin .eql (.t 12) (i 1)),o 15 (.mv (.t 16))] [0,1,15]) (.cond (.t 15) (.seq (r [o 17 (.mv (.t 0)),o 18 (.ixA 1 (.t 17) (i 0)),o 19 (.ld none (.t 18)),o 4 (.mv (.t 19))] [4]) .ret) .skip)))))) (.seq (r [o 5 (.mv (i 0))] [0,1,5]) (.seq (.seq (r [o 20 (.mv (.t 1)),o 21 (.lenT (.t 20)),o 22 (.bin .gtr (.t 21) (i 0))] [0,1,5,22]) (.cond (.t 22) (.seq (.seq (r [o 23 (.mv (.t 1)),o 24 (.lenT (.t 23)),o 25 (.mv (.t 0)),o 26 (.lenS (.t 25)),o 27 (.bin .sub (.t 26) (i 1)),o 28 (.bin .quo (i 9223372036854775807) (.t 27)),o 29 (.bin .geq (.t 24) (.t 28))] [0,1,5,29]) (.cond (.t 29) (r [o 30 (.mkI 9 (.c (.str ⟨#[115,116,114,105,110,103,115,58,32,74,111,105,110,32,111,117,116,112,117,116,32,108,101,110,103,116,104,32,111,118,101,114,102,108,111,119]⟩))),z (.no)] [0,1,5]) .skip)) (r [o 31 (.mv (.t 5)),o 32 (.mv (.t 1)),o 33 (.lenT (.t 32)),o 34 (.mv (.t 0)),o 35 (.lenS (.t 34)),o 36 (.bin .sub (.t 35) (i 1)),o 37 (.bin .mul (.t 33) (.t 36)),o 38 (.bin .add (.t 31) (.t 37)),o 5 (.mv (.t 38))] [0,1,5])) .skip)) (.seq (.seq (r [o 39 (.mv (.t 0)),o 40 (.lenS (.t 39)),o 41 (.mv (i 0))] [0,1,5,39,40,41]) (.block 1 (.loop (.seq (r [o 42 (.bin .lss (.t 41) (.t 40))] [0,1,5,39,40,41,42]) (.seq (.cond (.t 42) .skip (.exit 1)) (.seq (.block 2 (.seq (r [o 43 (.ixA 1 (.t 39) (.t 41)),o 44 (.ld none (.t 43)),o 7 (.mv (.t 44))] [0,1,5,7,39,40,41]) (.seq (.seq (r [o 45 (.mv (.t 7)),o 46 (.lenT (.t 45)),o 47 (.mv (.t 5)),o 48 (.bin .sub (i 9223372036854775807) (.t 47)),o 49 (.bin .gtr (.t 46) (.t 48))] [0,1,5,7,39,40,41,49]) (.cond (.t 49) (r [o 50 (.mkI 9 (.c (.str ⟨#[115,116,114,105,110,103,115,58,32,74,111,105,110,32,111,117,116,112,117,116,32,108,101,110,103,116,104,32,111,118,101,114,102,108,111,119]⟩))),z (.no)] [0,1,5,7,39,40,41]) .skip)) (r [o 51 (.mv (.t 5)),o 52 (.mv (.t 7)),o 53 (.lenT (.t 52)),o 54 (.bin .add (.t 51) (.t 53)),o 5 (.mv (.t 54))] [0,1,5,39,40,41])))) (r [o 55 (.bin .add (.t 41) (i 1)),o 41 (.mv (.t 55))] [0,1,5,39,40,41]))))))) (.seq (r [o 8 (.alloc [.nilp,.nils])] [0,1,5,8]) (.seq (r [o 56 (.mv (.t 5)),o 57 (.call 198 [(.t 8),(.t 56)])] [0,1,8]) (.seq (r [o 58 (.mv (.t 0)),o 59 (.ixA 1 (.t 58) (i 0)),o 60 (.ld none (.t 59)),o 61 (.call 199 [(.t 8),(.t 60)])] [0,1,8]) (.seq (.seq (r [o 62 (.mv (.t 0)),o 63 (.slc 1 (.t 62) (some (i 1)) none none),o 64 (.lenS (.t 63)),o 65 (.mv (i 0))] [1,8,63,64,65]) (.block 3 (.loop (.seq (r [o 66 (.bin .lss (.t 65) (.t 64))] [1,8,63,64,65,66]) (.seq (.cond (.t 66) .skip (.exit 3)) (.seq (.block 4 (.seq (r [o 67 (.ixA 1 (.t 63) (.t 65)),o 68 (.ld none (.t 67)),o 10 (.mv (.t 68))] [1,8,10,63,64,65]) (.seq (r [o 69 (.mv (.t 1)),o 70 (.call 199 [(.t 8),(.t 69)])] [1,8,10,63,64,65]) (r [o 71 (.mv (.t 10)),o 72 (.call 199 [(.t 8),(.t 71)])] [1,8,63,64,65])))) (r [o 73 (.bin .add (.t 65) (i 1)),o 65 (.mv (.t 73))] [1,8,63,64,65]))))))) (.seq (r [o 74 (.call 200 [(.t 8)]),o 4 (.mv (.t 74))] [4]) .ret)))))))))),[.t 4]⟩
theorem strings_Join_ok : cFn Tryz.prog (kps [[0,1],[0,1,12],[0,1,12,13],[4],[0,1,15],[4],[0,1,5],[0,1,5,22],[0,1,5,29],[0,1,5],[0,1,5],[0,1,5,39,40,41],[0,1,5,39,40,41,42],[0,1,5,7,39,40,41],[0,1,5,7,39,40,41,49],[0,1,5,7,39,40,41],[0,1,5,39,40,41],[0,1,5,39,40,41],[0,1,5,8],[0,1,8],[0,1,8],[1,8,63,64,65],[1,8,63,64,65,66],[1,8,10,63,64,65],[1,8,10,63,64,65],[1,8,63,64,65],[1,8,63,64,65],[4]]) [] 173 = some strings_Join_c := by kernel_rfl
abbrev ro : Nat := 174
def strconv_FormatBool_c : MFn := ⟨5,(.seq (r [o 2 (.mv (.c (.str ⟨#[]⟩)))] [0]) (.seq (r [o 3 (.mv (.t 0)),o 4 (.call 201 [(.t 3)]),o 2 (.mv (.t 4))] [2]) .ret)),[.t 2]⟩
theorem strconv_FormatBool_ok : cFn Tryz.prog (kps [[0],[2]]) [] 174 = some strconv_FormatBool_c := by kernel_rfl
abbrev strconv_Itoa : Nat := 175
def strconv_Itoa_c : MFn := ⟨5,(.seq (r [o 2 (.mv (.c (.str ⟨#[]⟩)))] [0]) (.seq (r [o 3 (.mv (.t 0)),o 4 (.call 202 [(.t 3)]),o 2 (.mv (.t 4))] [2]) .ret)),[.t 2]⟩
theorem strconv_Itoa_ok : cFn Tryz.prog (kps [[0],[2]]) [] 175 = some strconv_Itoa_c := by kernel_rfl
abbrev value_shape : Nat := 184
def value_shape_c : MFn := ⟨127,(.seq (r [o 2 (.box (.t 0)),o 4 (.alloc [.int .i64 0,.nils]),o 5 (.mv (.c (.bool false)))] [1,2,4]) (.seq (r [o 16 (.fA 0 (.t 2)),o 17 (.ld none (.t 16)),o 18 (.build [.int .i64 0,.nils] [(0,1,(.t 17))]),o 6 (.alloc [.int .i64 0,.nils]),z (.st 2 (.t 6) (.t 18))] [1,2,4,6]) (.seq (.block 0 (.seq (r [o 20 (.mv (.t 1)),o 21 (.bin .lss (.t 20) (i 1)),o 19 (.mv (.t 21))] [1,2,4,6,19]) (.cond (.t 19) (.seq (r [o 22 (.ld (some 2) (.t 6)),z (.st 2 (.t 4) (.t 22)),o 5 (.mv (.c (.bool false)))] [4,5]) .ret) (.seq (r [o 24 (.fA 0 (.t 2)),o 25 (.ld none (.t 24)),o 26 (.bin .eql (.t 25) (i 1)),o 27 (.mv (.t 26)),n 28 27 (.fA 0 (.t 2)),n 29 27 (.ld none (.t 28)),n 30 27 (.bin .eql (.t 29) (i 2)),o 31 (.pick (.t 27) (.c (.bool true)) (.t 30)),o 23 (.mv (.t 31))] [1,2,4,6,23]) (.cond (.t 23) (.seq (r [o 32 (.ld (some 2) (.t 6)),o 33 (.ld (some 2) (.t 6)),o 34 (.ld (some 3) (.t 2)),o 35 (.callF 203 [(.t 33),(.t 34)]),z (.st 2 (.t 4) (.t 32)),o 5 (.mv (.t 35))] [4,5]) .ret) (.seq (r [o 37 (.fA 0 (.t 2)),o 38 (.ld none (.t 37)),o 39 (.bin .eql (.t 38) (i 3)),o 40 (.mv (.t 39)),y 41 40 (.fA 1 (.t 2)),y 42 40 (.ld none (.t 41)),y 43 40 (.bin .eql (.t 42) (i 0)),o 44 (.pick (.t 40) (.t 43) (.c (.bool false))),o 45 (.mv (.t 44)),y 46 45 (.fA 2 (.t 2)),y 47 45 (.ld none (.t 46)),y 48 45 (.lenS (.t 47)),y 49 45 (.bin .geq (.t 48) (i 2)),o 50 (.pick (.t 45) (.t 49) (.c (.bool false))),o 51 (.mv (.t 50)),y 52 51 (.fA 2 (.t 2)),y 53 51 (.ld none (.t 52)),y 54 51 (.lenS (.t 53)),y 55 51 (.bin .leq (.t 54) (i 4)),o 56 (.pick (.t 51) (.t 55) (.c (.bool false))),o 36 (.mv (.t 56))] [1,2,4,6,36]) (.cond (.t 36) (.seq (.seq (r [o 57 (.fA 2 (.t 2)),o 58 (.ld none (.t 57)),o 59 (.lenS (.t 58)),o 60 (.mv (i 0))] [1,4,6,58,59,60]) (.block 1 (.loop (.seq (r [o 61 (.bin .lss (.t 60) (.t 59))] [1,4,6,58,59,60,61]) (.seq (.cond (.t 61) .skip (.exit 1)) (.seq (.block 2 (.seq (r [o 62 (.ixA 3 (.t 58) (.t 60)),o 63 (.ld (some 3) (.t 62)),o 8 (.alloc zV),z (.st 3 (.t 8) (.t 63))] [1,4,6,8,58,59,60]) (.seq (r [o 65 (.ld (some 3) (.t 8)),o 66 (.mv (.t 1)),o 67 (.bin .sub (.t 66) (i 1)),o 68 (.call 184 [(.t 65),(.t 67)]),o 64 (.mv (.t 68)),o 69 (.ext (.t 64) 0),o 70 (.ext (.t 64) 1),o 9 (.alloc [.int .i64 0,.nils]),z (.st 2 (.t 9) (.t 69)),o 10 (.mv (.t 70))] [1,4,6,9,10,58,59,60]) (.seq (.seq (r [o 71 (.mv (.t 10)),o 72 (.un .not (.t 71))] [1,4,6,9,58,59,60,72]) (.cond (.t 72) (.seq (r [o 73 (.ld (some 2) (.t 6)),z (.st 2 (.t 4) (.t 73)),o 5 (.mv (.c (.bool false)))] [4,5]) .ret) .skip)) (r [o 74 (.fA 1 (.t 6)),o 75 (.ld none (.t 74)),o 76 (.ld (some 2) (.t 9)),o 77 (.buildSl 2 1 [.int .i64 0,.nils] [(0,(.t 76))]),o 78 (.app 2 32 (.t 75) (.t 77)),o 79 (.fA 1 (.t 6)),z (.st 1 (.t 79) (.t 78))] [1,4,6,58,59,60]))))) (r [o 80 (.bin .add (.t 60) (i 1)),o 60 (.mv (.t 80))] [1,4,6,58,59,60]))))))) (.seq (r [o 81 (.ld (some 2) (.t 6)),z (.st 2 (.t 4) (.t 81)),o 5 (.mv (.c (.bool true)))] [4,5]) .ret)) (.seq (r [o 83 (.fA 0 (.t 2)),o 84 (.ld none (.t 83)),o 85 (.bin .eql (.t 84) (i 4)),o 86 (.mv (.t 85)),y 87 86 (.fA 1 (.t 2)),y 88 86 (.ld none (.t 87)),y 89 86 (.bin .eql (.t 88) (i 0)),o 90 (.pick (.t 86) (.t 89) (.c (.bool false))),o 91 (.mv (.t 90)),y 92 91 (.fA 2 (.t 2)),y 93 91 (.ld none (.t 92)),y 94 91 (.lenS (.t 93)),y 95 91 (.bin .leq (.t 94) (i 32)),o 96 (.pick (.t 91) (.t 95) (.c (.bool false))),o 82 (.mv (.t 96))] [1,2,4,6,82]) (.cond (.t 82) (.seq (r [o 11 (.alloc [.int .i64 0,.nils])] [1,2,4,6,11]) (.seq (.seq (r [o 97 (.fA 2 (.t 2)),o 98 (.ld none (.t 97)),o 99 (.lenS (.t 98)),o 100 (.mv (i 0))] [1,4,6,11,98,99,100]) (.block 3 (.loop (.seq (r [o 101 (.bin .lss (.t 100) (.t 99))] [1,4,6,11,98,99,100,101]) (.seq (.cond (.t 101) .skip (.exit 3)) (.seq (.block 4 (.seq (r [o 102 (.ixA 3 (.t 98) (.t 100)),o 103 (.ld (some 3) (.t 102)),o 13 (.alloc zV),z (.st 3 (.t 13) (.t 103))] [1,4,6,11,13,98,99,100]) (.seq (r [o 105 (.ld (some 3) (.t 13)),o 106 (.mv (.t 1)),o 107 (.bin .sub (.t 106) (i 1)),o 108 (.call 184 [(.t 105),(.t 107)]),o 104 (.mv (.t 108)),o 109 (.ext (.t 104) 0),o 110 (.ext (.t 104) 1),o 14 (.alloc [.int .i64 0,.nils]),z (.st 2 (.t 14) (.t 109)),o 15 (.mv (.t 110))] [1,4,6,11,14,15,98,99,100]) (.seq (.seq (r [o 111 (.mv (.t 15))] [1,4,6,11,14,15,98,99,100,111]) (.cond (.t 111) (r [o 113 (.ld (some 2) (.t 11)),o 114 (.ld (some 2) (.t 14)),o 115 (.call 204 [(.t 113),(.t 114)]),o 112 (.mv (.t 115)),o 116 (.ext (.t 112) 0),o 117 (.ext (.t 112) 1),z (.st 2 (.t 11) (.t 116)),o 15 (.mv (.t 117))] [1,4,6,11,15,98,99,100]) .skip)) (.seq (r [o 118 (.mv (.t 15)),o 119 (.un .not (.t 118))] [1,4,6,11,98,99,100,119]) (.cond (.t 119) (.seq (r [o 120 (.ld (some 2) (.t 6)),z (.st 2 (.t 4) (.t 120)),o 5 (.mv (.c (.bool false)))] [4,5]) .ret) .skip)))))) (r [o 121 (.bin .add (.t 100) (i 1)),o 100 (.mv (.t 121))] [1,4,6,11,98,99,100]))))))) (.seq (r [o 122 (.ld (some 2) (.t 11)),o 123 (.buildSl 2 1 [.int .i64 0,.nils] [(0,(.t 122))]),o 124 (.fA 1 (.t 6)),z (.st 1 (.t 124) (.t 123))] [4,6]) (.seq (r [o 125 (.ld (some 2) (.t 6)),z (.st 2 (.t 4) (.t 125)),o 5 (.mv (.c (.bool true)))] [4,5]) .ret)))) .skip))))))))) (.seq (r [o 126 (.ld (some 2) (.t 6)),z (.st 2 (.t 4) (.t 126)),o 5 (.mv (.c (.bool false)))] [4,5]) .ret)))),[.cell 4 (some 2),.t 5]⟩
theorem value_shape_ok : cFn Tryz.prog (kps [[1,2,4],[1,2,4,6],[1,2,4,6,19],[4,5],[1,2,4,6,23],[4,5],[1,2,4,6,36],[1,4,6,58,59,60],[1,4,6,58,59,60,61],[1,4,6,8,58,59,60],[1,4,6,9,10,58,59,60],[1,4,6,9,58,59,60,72],[4,5],[1,4,6,58,59,60],[1,4,6,58,59,60],[4,5],[1,2,4,6,82],[1,2,4,6,11],[1,4,6,11,98,99,100],[1,4,6,11,98,99,100,101],[1,4,6,11,13,98,99,100],[1,4,6,11,14,15,98,99,100],[1,4,6,11,14,15,98,99,100,111],[1,4,6,11,15,98,99,100],[1,4,6,11,98,99,100,119],[4,5],[1,4,6,11,98,99,100],[4,6],[4,5],[4,5]]) [] 184 = some value_shape_c := by kernel_rfl
abbrev tA : Nat := 185
def value_TypeRight_c : MFn := ⟨5,(.seq (r [o 1 (.box (.t 0)),o 2 (.mv (.c (.bool false)))] [1]) (.seq (r [o 3 (.ld (some 2) (.t 1)),o 4 (.call 205 [(.t 3),(i 40)]),o 2 (.mv (.t 4))] [2]) .ret)),[.t 2]⟩
theorem value_TypeRight_ok : cFn Tryz.prog (kps [[1],[2]]) [] 185 = some value_TypeRight_c := by kernel_rfl
abbrev value_closed : Nat := 186
def value_closed_c : MFn := ⟨29,(.seq (r [o 1 (.box (.t 0)),o 2 (.alloc [.int .i64 0,.nils])] [1,2]) (.seq (.seq (r [o 6 (.fA 0 (.t 1)),o 7 (.ld none (.t 6)),o 8 (.bin .eql (.t 7) (i 0))] [1,2,8]) (.cond (.t 8) (.seq (r [o 9 (.build [.int .i64 0,.nils] [(0,1,(i 1))]),z (.st 2 (.t 2) (.t 9))] [2]) .ret) .skip)) (.seq (r [o 10 (.fA 0 (.t 1)),o 11 (.ld none (.t 10)),o 12 (.build [.int .i64 0,.nils] [(0,1,(.t 11))]),o 3 (.alloc [.int .i64 0,.nils]),z (.st 2 (.t 3) (.t 12))] [1,2,3]) (.seq (.seq (r [o 13 (.fA 1 (.t 1)),o 14 (.ld none (.t 13)),o 15 (.lenS (.t 14)),o 16 (.mv (i 0))] [2,3,14,15,16]) (.block 0 (.loop (.seq (r [o 17 (.bin .lss (.t 16) (.t 15))] [2,3,14,15,16,17]) (.seq (.cond (.t 17) .skip (.exit 0)) (.seq (.block 1 (.seq (r [o 18 (.ixA 2 (.t 14) (.t 16)),o 19 (.ld (some 2) (.t 18)),o 5 (.alloc [.int .i64 0,.nils]),z (.st 2 (.t 5) (.t 19))] [2,3,5,14,15,16]) (r [o 20 (.fA 1 (.t 3)),o 21 (.ld none (.t 20)),o 22 (.ld (some 2) (.t 5)),o 23 (.callF 186 [(.t 22)]),o 24 (.buildSl 2 1 [.int .i64 0,.nils] [(0,(.t 23))]),o 25 (.app 2 32 (.t 21) (.t 24)),o 26 (.fA 1 (.t 3)),z (.st 1 (.t 26) (.t 25))] [2,3,14,15,16]))) (r [o 27 (.bin .add (.t 16) (i 1)),o 16 (.mv (.t 27))] [2,3,14,15,16]))))))) (.seq (r [o 28 (.ld (some 2) (.t 3)),z (.st 2 (.t 2) (.t 28))] [2]) .ret))))),[.cell 2 (some 2)]⟩
theorem value_closed_ok : cFn Tryz.prog (kps [[1,2],[1,2,8],[2],[1,2,3],[2,3,14,15,16],[2,3,14,15,16,17],[2,3,5,14,15,16],[2,3,14,15,16],[2,3,14,15,16],[2]]) [] 186 = some value_closed_c := by kernel_rfl
abbrev value_Size : Nat := 187
def value_Size_c : MFn := ⟨22,(.seq (r [o 1 (.box (.t 0)),o 2 (.mv (i 0))] [1]) (.seq (r [o 3 (.mv (i 1))] [1,3]) (.seq (.seq (r [o 6 (.fA 2 (.t 1)),o 7 (.ld none (.t 6)),o 8 (.lenS (.t 7)),o 9 (.mv (i 0))] [3,7,8,9]) (.block 0 (.loop (.seq (r [o 10 (.bin .lss (.t 9) (.t 8))] [3,7,8,9,10]) (.seq (.cond (.t 10) .skip (.exit 0)) (.seq (.block 1 (.seq (r [o 11 (.ixA 3 (.t 7) (.t 9)),o 12 (.ld (some 3) (.t 11)),o 5 (.alloc zV),z (.st 3 (.t 5) (.t 12))] [3,5,7,8,9]) (.seq (r [o 13 (.mv (.t 3)),o 14 (.ld (some 3) (.t 5)),o 15 (.call 187 [(.t 14)]),o 16 (.bin .add (.t 13) (.t 15)),o 17 (.min2 (.t 16) (i 1001)),o 3 (.mv (.t 17))] [3,7,8,9]) (.seq (r [o 18 (.mv (.t 3)),o 19 (.bin .gtr (.t 18) (i 1000))] [3,7,8,9,19]) (.cond (.t 19) (.exit 0) .skip))))) (r [o 20 (.bin .add (.t 9) (i 1)),o 9 (.mv (.t 20))] [3,7,8,9]))))))) (.seq (r [o 21 (.mv (.t 3)),o 2 (.mv (.t 21))] [2]) .ret)))),[.t 2]⟩
theorem value_Size_ok : cFn Tryz.prog (kps [[1],[1,3],[3,7,8,9],[3,7,8,9,10],[3,5,7,8,9],[3,7,8,9],[3,7,8,9,19],[3,7,8,9],[2]]) [] 187 = some value_Size_c := by kernel_rfl
abbrev ratio_Right : Nat := 188
def ratio_Right_c : MFn := ⟨45,(.seq (r [o 1 (.box (.t 0)),o 2 (.mv (.c (.bool false)))] [1]) (.seq (.seq (r [o 5 (.fA 1 (.t 1)),o 6 (.ld none (.t 5)),o 7 (.call 206 [(.t 6)]),o 8 (.un .not (.t 7)),o 9 (.mv (.t 8)),n 10 9 (.fA 2 (.t 1)),n 11 9 (.ld none (.t 10)),n 12 9 (.call 206 [(.t 11)]),n 13 9 (.un .not (.t 12)),o 14 (.pick (.t 9) (.c (.bool true)) (.t 13)),o 15 (.mv (.t 14)),n 16 15 (.fA 2 (.t 1)),n 17 15 (.ld none (.t 16)),n 18 15 (.lenS (.t 17)),n 19 15 (.bin .eql (.t 18) (i 0)),o 20 (.pick (.t 15) (.c (.bool true)) (.t 19)),o 21 (.mv (.t 20)),n 22 21 (.fA 1 (.t 1)),n 23 21 (.ld none (.t 22)),n 24 21 (.lenS (.t 23)),n 25 21 (.bin .eql (.t 24) (i 0)),n 26 21 (.mv (.t 25)),y 27 26 (.fA 0 (.t 1)),y 28 26 (.ld none (.t 27)),n 29 21 (.pick (.t 26) (.t 28) (.c (.bool false))),o 30 (.pick (.t 21) (.c (.bool true)) (.t 29))] [1,30]) (.cond (.t 30) (.seq (r [o 2 (.mv (.c (.bool false)))] [2]) .ret) .skip)) (.seq (r [o 32 (.fA 1 (.t 1)),o 33 (.ld none (.t 32)),o 34 (.fA 2 (.t 1)),o 35 (.ld none (.t 34)),o 36 (.call 191 [(.t 33),(.t 35)]),o 37 (.call 126 [(.t 36)]),o 31 (.mv (.t 37)),o 38 (.ext (.t 31) 0),o 39 (.ext (.t 31) 1),o 3 (.mv (.t 38)),o 4 (.mv (.t 39))] [3,4]) (.seq (r [o 40 (.mv (.t 4)),o 41 (.mv (.t 40)),y 42 41 (.mv (.t 3)),y 43 41 (.bin .eql (.t 42) (.c (.int .u64 1))),o 44 (.pick (.t 41) (.t 43) (.c (.bool false))),o 2 (.mv (.t 44))] [2]) .ret)))),[.t 2]⟩
theorem ratio_Right_ok : cFn Tryz.prog (kps [[1],[1,30],[2],[3,4],[2]]) [] 188 = some ratio_Right_c := by kernel_rfl
abbrev lT : Nat := 201
def internal_strconv_FormatBool_c : MFn := ⟨4,(.seq (r [o 2 (.mv (.c (.str ⟨#[]⟩)))] [0]) (.seq (.seq (r [o 3 (.mv (.t 0))] [3]) (.cond (.t 3) (.seq (r [o 2 (.mv (.c (.str ⟨#[116,114,117,101]⟩)))] [2]) .ret) .skip)) (.seq (r [o 2 (.mv (.c (.str ⟨#[102,97,108,115,101]⟩)))] [2]) .ret))),[.t 2]⟩
theorem internal_strconv_FormatBool_ok : cFn Tryz.prog (kps [[0],[3],[2],[2]]) [] 201 = some internal_strconv_FormatBool_c := by kernel_rfl
abbrev pm : Nat := 202
def internal_strconv_Itoa_c : MFn := ⟨5,(.seq (r [o 2 (.mv (.c (.str ⟨#[]⟩)))] [0]) (.seq (r [o 3 (.mv (.t 0)),o 4 (.call 214 [(.t 3),(i 10)]),o 2 (.mv (.t 4))] [2]) .ret)),[.t 2]⟩
theorem internal_strconv_Itoa_ok : cFn Tryz.prog (kps [[0],[2]]) [] 202 = some internal_strconv_Itoa_c := by kernel_rfl
abbrev value_has : Nat := 203
def value_has_c : MFn := ⟨72,(.seq (r [o 2 (.box (.t 0)),o 3 (.box (.t 1)),o 4 (.mv (.c (.bool false)))] [2,3]) (.seq (.seq (r [o 5 (.fA 0 (.t 3)),o 6 (.ld none (.t 5)),o 7 (.fA 0 (.t 2)),o 8 (.ld none (.t 7)),o 9 (.bin .neq (.t 6) (.t 8))] [2,3,9]) (.cond (.t 9) (.seq (r [o 4 (.mv (.c (.bool false)))] [4]) .ret) .skip)) (.seq (.seq (r [o 10 (.fA 0 (.t 2)),o 11 (.ld none (.t 10))] [2,3,11]) (.block 0 (.seq (r [o 13 (.bin .eql (.t 11) (i 1)),o 12 (.mv (.t 13))] [2,3,11,12]) (.cond (.t 12) (.seq (r [o 14 (.fA 1 (.t 3)),o 15 (.ld none (.t 14)),o 16 (.bin .eql (.t 15) (i 0)),o 17 (.mv (.t 16)),n 18 17 (.fA 1 (.t 3)),n 19 17 (.ld none (.t 18)),n 20 17 (.bin .eql (.t 19) (i 1)),o 21 (.pick (.t 17) (.c (.bool true)) (.t 20)),o 22 (.mv (.t 21)),y 23 22 (.fA 2 (.t 3)),y 24 22 (.ld none (.t 23)),y 25 22 (.lenS (.t 24)),y 26 22 (.bin .eql (.t 25) (i 0)),o 27 (.pick (.t 22) (.t 26) (.c (.bool false))),o 4 (.mv (.t 27))] [4]) .ret) (.seq (r [o 29 (.bin .eql (.t 11) (i 2)),o 28 (.mv (.t 29))] [2,3,11,28]) (.cond (.t 28) (.seq (r [o 30 (.fA 1 (.t 3)),o 31 (.ld none (.t 30)),o 32 (.bin .geq (.t 31) (i (-2147483648))),o 33 (.mv (.t 32)),y 34 33 (.fA 1 (.t 3)),y 35 33 (.ld none (.t 34)),y 36 33 (.bin .leq (.t 35) (i 2147483647)),o 37 (.pick (.t 33) (.t 36) (.c (.bool false))),o 38 (.mv (.t 37)),y 39 38 (.fA 2 (.t 3)),y 40 38 (.ld none (.t 39)),y 41 38 (.lenS (.t 40)),y 42 38 (.bin .eql (.t 41) (i 0)),o 43 (.pick (.t 38) (.t 42) (.c (.bool false))),o 4 (.mv (.t 43))] [4]) .ret) (.seq (r [o 45 (.bin .eql (.t 11) (i 3)),o 44 (.mv (.t 45))] [2,3,44]) (.cond (.t 44) (.seq (r [o 46 (.fA 1 (.t 3)),o 47 (.ld none (.t 46)),o 48 (.bin .eql (.t 47) (i 0)),o 49 (.mv (.t 48)),y 50 49 (.fA 1 (.t 2)),y 51 49 (.ld none (.t 50)),y 52 49 (.fA 2 (.t 3)),y 53 49 (.ld none (.t 52)),y 54 49 (.call 215 [(.t 51),(.t 53),(.c (.clo 203 []))]),o 55 (.pick (.t 49) (.t 54) (.c (.bool false))),o 4 (.mv (.t 55))] [4]) .ret) .skip)))))))) (.seq (r [o 56 (.fA 1 (.t 3)),o 57 (.ld none (.t 56)),o 58 (.bin .eql (.t 57) (i 0)),o 59 (.mv (.t 58)),y 60 59 (.fA 2 (.t 3)),y 61 59 (.ld none (.t 60)),y 62 59 (.lenS (.t 61)),y 63 59 (.bin .leq (.t 62) (i 32)),o 64 (.pick (.t 59) (.t 63) (.c (.bool false))),o 65 (.mv (.t 64)),y 66 65 (.fA 2 (.t 3)),y 67 65 (.ld none (.t 66)),y 68 65 (.mkF 217 [(.t 2)]),y 69 65 (.call 216 [(.t 67),(.t 68)]),y 70 65 (.un .not (.t 69)),o 71 (.pick (.t 65) (.t 70) (.c (.bool false))),o 4 (.mv (.t 71))] [4]) .ret)))),[.t 4]⟩
theorem value_has_ok : cFn Tryz.prog (kps [[2,3],[2,3,9],[4],[2,3,11],[2,3,11,12],[4],[2,3,11,28],[4],[2,3,44],[4],[4]]) [] 203 = some value_has_c := by kernel_rfl
abbrev value_join : Nat := 204
def value_join_c : MFn := ⟨70,(.seq (r [o 2 (.box (.t 0)),o 3 (.box (.t 1)),o 4 (.alloc [.int .i64 0,.nils]),o 5 (.mv (.c (.bool false)))] [2,3,4]) (.seq (.block 0 (.seq (r [o 11 (.fA 0 (.t 2)),o 12 (.ld none (.t 11)),o 13 (.bin .eql (.t 12) (i 0)),o 10 (.mv (.t 13))] [2,3,4,10]) (.cond (.t 10) (.seq (r [o 14 (.ld (some 2) (.t 3)),z (.st 2 (.t 4) (.t 14)),o 5 (.mv (.c (.bool true)))] [4,5]) .ret) (.seq (r [o 16 (.fA 0 (.t 3)),o 17 (.ld none (.t 16)),o 18 (.bin .eql (.t 17) (i 0)),o 15 (.mv (.t 18))] [2,3,4,15]) (.cond (.t 15) (.seq (r [o 19 (.ld (some 2) (.t 2)),z (.st 2 (.t 4) (.t 19)),o 5 (.mv (.c (.bool true)))] [4,5]) .ret) (.seq (r [o 21 (.fA 0 (.t 2)),o 22 (.ld none (.t 21)),o 23 (.fA 0 (.t 3)),o 24 (.ld none (.t 23)),o 25 (.bin .neq (.t 22) (.t 24)),o 26 (.mv (.t 25)),n 27 26 (.fA 1 (.t 2)),n 28 26 (.ld none (.t 27)),n 29 26 (.lenS (.t 28)),n 30 26 (.fA 1 (.t 3)),n 31 26 (.ld none (.t 30)),n 32 26 (.lenS (.t 31)),n 33 26 (.bin .neq (.t 29) (.t 32)),o 34 (.pick (.t 26) (.c (.bool true)) (.t 33)),o 20 (.mv (.t 34))] [2,3,4,20]) (.cond (.t 20) (.seq (r [o 35 (.ld (some 2) (.t 2)),z (.st 2 (.t 4) (.t 35)),o 5 (.mv (.c (.bool false)))] [4,5]) .ret) .skip))))))) (.seq (r [o 36 (.fA 0 (.t 2)),o 37 (.ld none (.t 36)),o 38 (.build [.int .i64 0,.nils] [(0,1,(.t 37))]),o 6 (.alloc [.int .i64 0,.nils]),z (.st 2 (.t 6) (.t 38))] [2,3,4,6]) (.seq (.seq (r [o 39 (.fA 1 (.t 2)),o 40 (.ld none (.t 39)),o 41 (.lenS (.t 40)),o 42 (.mv (i 0))] [2,3,4,6,41,42]) (.block 1 (.loop (.seq (r [o 43 (.bin .lss (.t 42) (.t 41))] [2,3,4,6,41,42,43]) (.seq (.cond (.t 43) .skip (.exit 1)) (.seq (.block 2 (.seq (r [o 44 (.mv (.t 42)),o 7 (.mv (.t 44))] [2,3,4,6,7,41,42]) (.seq (r [o 46 (.fA 1 (.t 2)),o 47 (.ld none (.t 46)),o 48 (.mv (.t 7)),o 49 (.ixA 2 (.t 47) (.t 48)),o 50 (.ld (some 2) (.t 49)),o 51 (.fA 1 (.t 3)),o 52 (.ld none (.t 51)),o 53 (.mv (.t 7)),o 54 (.ixA 2 (.t 52) (.t 53)),o 55 (.ld (some 2) (.t 54)),o 56 (.callF 204 [(.t 50),(.t 55)]),o 45 (.mv (.t 56)),o 57 (.ext (.t 45) 0),o 58 (.ext (.t 45) 1),o 8 (.alloc [.int .i64 0,.nils]),z (.st 2 (.t 8) (.t 57)),o 9 (.mv (.t 58))] [2,3,4,6,8,9,41,42]) (.seq (.seq (r [o 59 (.mv (.t 9)),o 60 (.un .not (.t 59))] [2,3,4,6,8,41,42,60]) (.cond (.t 60) (.seq (r [o 61 (.ld (some 2) (.t 2)),z (.st 2 (.t 4) (.t 61)),o 5 (.mv (.c (.bool false)))] [4,5]) .ret) .skip)) (r [o 62 (.fA 1 (.t 6)),o 63 (.ld none (.t 62)),o 64 (.ld (some 2) (.t 8)),o 65 (.buildSl 2 1 [.int .i64 0,.nils] [(0,(.t 64))]),o 66 (.app 2 32 (.t 63) (.t 65)),o 67 (.fA 1 (.t 6)),z (.st 1 (.t 67) (.t 66))] [2,3,4,6,41,42]))))) (r [o 68 (.bin .add (.t 42) (i 1)),o 42 (.mv (.t 68))] [2,3,4,6,41,42]))))))) (.seq (r [o 69 (.ld (some 2) (.t 6)),z (.st 2 (.t 4) (.t 69)),o 5 (.mv (.c (.bool true)))] [4,5]) .ret))))),[.cell 4 (some 2),.t 5]⟩
theorem value_join_ok : cFn Tryz.prog (kps [[2,3,4],[2,3,4,10],[4,5],[2,3,4,15],[4,5],[2,3,4,20],[4,5],[2,3,4,6],[2,3,4,6,41,42],[2,3,4,6,41,42,43],[2,3,4,6,7,41,42],[2,3,4,6,8,9,41,42],[2,3,4,6,8,41,42,60],[4,5],[2,3,4,6,41,42],[2,3,4,6,41,42],[4,5]]) [] 204 = some value_join_c := by kernel_rfl
abbrev value_deep : Nat := 205
def value_deep_c : MFn := ⟨39,(.seq (r [o 2 (.box (.t 0)),o 3 (.box (.t 1)),o 4 (.mv (.c (.bool false)))] [2,3]) (.seq (.seq (r [o 5 (.ld none (.t 3)),o 6 (.bin .lss (.t 5) (i 1))] [2,3,6]) (.cond (.t 6) (.seq (r [o 4 (.mv (.c (.bool false)))] [4]) .ret) .skip)) (.seq (.seq (r [o 7 (.fA 0 (.t 2)),o 8 (.ld none (.t 7))] [2,3,8]) (.block 0 (.seq (.seq (r [o 10 (.bin .eql (.t 8) (i 1)),o 9 (.mv (.t 10))] [2,3,8,9]) (.cond (.t 9) .skip (r [o 11 (.bin .eql (.t 8) (i 2)),o 9 (.mv (.t 11))] [2,3,8,9]))) (.cond (.t 9) (.seq (r [o 12 (.fA 1 (.t 2)),o 13 (.ld none (.t 12)),o 14 (.lenS (.t 13)),o 15 (.bin .eql (.t 14) (i 0)),o 4 (.mv (.t 15))] [4]) .ret) (.seq (r [o 17 (.bin .eql (.t 8) (i 3)),o 16 (.mv (.t 17))] [2,3,8,16]) (.cond (.t 16) (.seq (r [o 18 (.fA 1 (.t 2)),o 19 (.ld none (.t 18)),o 20 (.lenS (.t 19)),o 21 (.bin .lss (.t 20) (i 2)),o 22 (.mv (.t 21)),n 23 22 (.fA 1 (.t 2)),n 24 22 (.ld none (.t 23)),n 25 22 (.lenS (.t 24)),n 26 22 (.bin .gtr (.t 25) (i 4)),o 27 (.pick (.t 22) (.c (.bool true)) (.t 26))] [2,3,27]) (.cond (.t 27) (.seq (r [o 4 (.mv (.c (.bool false)))] [4]) .ret) .skip)) (.seq (r [o 29 (.bin .eql (.t 8) (i 4)),o 28 (.mv (.t 29))] [2,3,28]) (.cond (.t 28) (.seq (r [o 30 (.fA 1 (.t 2)),o 31 (.ld none (.t 30)),o 32 (.lenS (.t 31)),o 33 (.bin .neq (.t 32) (i 1))] [2,3,33]) (.cond (.t 33) (.seq (r [o 4 (.mv (.c (.bool false)))] [4]) .ret) .skip)) (.seq (r [o 4 (.mv (.c (.bool false)))] [4]) .ret))))))))) (.seq (r [o 34 (.fA 1 (.t 2)),o 35 (.ld none (.t 34)),o 36 (.mkF 219 [(.t 3)]),o 37 (.call 218 [(.t 35),(.t 36)]),o 38 (.un .not (.t 37)),o 4 (.mv (.t 38))] [4]) .ret)))),[.t 4]⟩
theorem value_deep_ok : cFn Tryz.prog (kps [[2,3],[2,3,6],[4],[2,3,8],[4],[2,3,8,9],[2,3,8,9],[4],[2,3,8,16],[2,3,27],[4],[2,3,28],[2,3,33],[4],[4]]) [] 205 = some value_deep_c := by kernel_rfl
abbrev nat_Right : Nat := 206
def nat_Right_c : MFn := ⟨15,(.seq (r [o 2 (.mv (.c (.bool false)))] [0]) (.seq (r [o 3 (.mv (.t 0)),o 4 (.lenS (.t 3)),o 5 (.bin .eql (.t 4) (i 0)),o 6 (.mv (.t 5)),n 7 6 (.mv (.t 0)),n 8 6 (.mv (.t 0)),n 9 6 (.lenS (.t 8)),n 10 6 (.bin .sub (.t 9) (i 1)),n 11 6 (.ixA 1 (.t 7) (.t 10)),n 12 6 (.ld none (.t 11)),n 13 6 (.bin .neq (.t 12) (.c (.int .u32 0))),o 14 (.pick (.t 6) (.c (.bool true)) (.t 13)),o 2 (.mv (.t 14))] [2]) .ret)),[.t 2]⟩
theorem nat_Right_ok : cFn Tryz.prog (kps [[0],[2]]) [] 206 = some nat_Right_c := by kernel_rfl
abbrev io : Nat := 215
def slices_EqualFunc_Type_Value_Type_Value_c : MFn := ⟨32,(.seq (r [o 6 (.mv (.c (.bool false)))] [0,1,2]) (.seq (.seq (r [o 10 (.mv (.t 0)),o 11 (.lenS (.t 10)),o 12 (.mv (.t 1)),o 13 (.lenS (.t 12)),o 14 (.bin .neq (.t 11) (.t 13))] [0,1,2,14]) (.cond (.t 14) (.seq (r [o 6 (.mv (.c (.bool false)))] [6]) .ret) .skip)) (.seq (.seq (r [o 15 (.mv (.t 0)),o 16 (.lenS (.t 15)),o 17 (.mv (i 0))] [1,2,15,16,17]) (.block 0 (.loop (.seq (r [o 18 (.bin .lss (.t 17) (.t 16))] [1,2,15,16,17,18]) (.seq (.cond (.t 18) .skip (.exit 0)) (.seq (.block 1 (.seq (r [o 19 (.mv (.t 17)),o 20 (.ixA 2 (.t 15) (.t 17)),o 21 (.ld (some 2) (.t 20)),o 8 (.alloc [.int .i64 0,.nils]),o 7 (.mv (.t 19)),z (.st 2 (.t 8) (.t 21))] [1,2,7,8,15,16,17]) (.seq (r [o 22 (.mv (.t 1)),o 23 (.mv (.t 7)),o 24 (.ixA 3 (.t 22) (.t 23)),o 25 (.ld (some 3) (.t 24)),o 9 (.alloc zV),z (.st 3 (.t 9) (.t 25))] [1,2,8,9,15,16,17]) (.seq (r [o 26 (.mv (.t 2)),o 27 (.ld (some 2) (.t 8)),o 28 (.ld (some 3) (.t 9)),o 29 (.callV (.t 26) [(.t 27),(.t 28)]),o 30 (.un .not (.t 29))] [1,2,15,16,17,30]) (.cond (.t 30) (.seq (r [o 6 (.mv (.c (.bool false)))] [6]) .ret) .skip))))) (r [o 31 (.bin .add (.t 17) (i 1)),o 17 (.mv (.t 31))] [1,2,15,16,17]))))))) (.seq (r [o 6 (.mv (.c (.bool true)))] [6]) .ret)))),[.t 6]⟩
theorem slices_EqualFunc_Type_Value_Type_Value_ok : cFn Tryz.prog (kps [[0,1,2],[0,1,2,14],[6],[1,2,15,16,17],[1,2,15,16,17,18],[1,2,7,8,15,16,17],[1,2,8,9,15,16,17],[1,2,15,16,17,30],[6],[1,2,15,16,17],[6]]) [] 215 = some slices_EqualFunc_Type_Value_Type_Value_c := by kernel_rfl
abbrev kw : Nat := 216
def slices_ContainsFunc_Value_Value_c : MFn := ⟨9,(.seq (r [o 4 (.mv (.c (.bool false)))] [0,1]) (.seq (r [o 5 (.mv (.t 0)),o 6 (.mv (.t 1)),o 7 (.call 228 [(.t 5),(.t 6)]),o 8 (.bin .geq (.t 7) (i 0)),o 4 (.mv (.t 8))] [4]) .ret)),[.t 4]⟩
theorem slices_ContainsFunc_Value_Value_ok : cFn Tryz.prog (kps [[0,1],[4]]) [] 216 = some slices_ContainsFunc_Value_Value_c := by kernel_rfl
abbrev value_has_1 : Nat := 217
def value_has_1_c : MFn := ⟨11,(.seq (r [o 2 (.box (.t 0)),o 3 (.mv (.c (.bool false)))] [1,2]) (.seq (r [o 4 (.fA 1 (.t 1)),o 5 (.ld none (.t 4)),o 6 (.ixA 2 (.t 5) (i 0)),o 7 (.ld (some 2) (.t 6)),o 8 (.ld (some 3) (.t 2)),o 9 (.callF 203 [(.t 7),(.t 8)]),o 10 (.un .not (.t 9)),o 3 (.mv (.t 10))] [3]) .ret)),[.t 3]⟩
theorem value_has_1_ok : cFn Tryz.prog (kps [[1,2],[3]]) [] 217 = some value_has_1_c := by kernel_rfl
abbrev lH : Nat := 218
def slices_ContainsFunc_Type_Type_c : MFn := ⟨9,(.seq (r [o 4 (.mv (.c (.bool false)))] [0,1]) (.seq (r [o 5 (.mv (.t 0)),o 6 (.mv (.t 1)),o 7 (.call 229 [(.t 5),(.t 6)]),o 8 (.bin .geq (.t 7) (i 0)),o 4 (.mv (.t 8))] [4]) .ret)),[.t 4]⟩
theorem slices_ContainsFunc_Type_Type_ok : cFn Tryz.prog (kps [[0,1],[4]]) [] 218 = some slices_ContainsFunc_Type_Type_c := by kernel_rfl
abbrev value_deep_1 : Nat := 219
def value_deep_1_c : MFn := ⟨9,(.seq (r [o 2 (.box (.t 0)),o 3 (.mv (.c (.bool false)))] [1,2]) (.seq (r [o 4 (.ld (some 2) (.t 2)),o 5 (.ld none (.t 1)),o 6 (.bin .sub (.t 5) (i 1)),o 7 (.call 205 [(.t 4),(.t 6)]),o 8 (.un .not (.t 7)),o 3 (.mv (.t 8))] [3]) .ret)),[.t 3]⟩
theorem value_deep_1_ok : cFn Tryz.prog (kps [[1,2],[3]]) [] 219 = some value_deep_1_c := by kernel_rfl
abbrev lO : Nat := 228
def slices_IndexFunc_Value_Value_c : MFn := ⟨19,(.seq (r [o 4 (.mv (i 0))] [0,1]) (.seq (.seq (r [o 6 (.mv (.t 0)),o 7 (.lenS (.t 6)),o 8 (.mv (i 0))] [0,1,7,8]) (.block 0 (.loop (.seq (r [o 9 (.bin .lss (.t 8) (.t 7))] [0,1,7,8,9]) (.seq (.cond (.t 9) .skip (.exit 0)) (.seq (.block 1 (.seq (r [o 10 (.mv (.t 8)),o 5 (.mv (.t 10))] [0,1,5,7,8]) (.seq (r [o 11 (.mv (.t 1)),o 12 (.mv (.t 0)),o 13 (.mv (.t 5)),o 14 (.ixA 3 (.t 12) (.t 13)),o 15 (.ld (some 3) (.t 14)),o 16 (.callV (.t 11) [(.t 15)])] [0,1,5,7,8,16]) (.cond (.t 16) (.seq (r [o 17 (.mv (.t 5)),o 4 (.mv (.t 17))] [4]) .ret) .skip)))) (r [o 18 (.bin .add (.t 8) (i 1)),o 8 (.mv (.t 18))] [0,1,7,8]))))))) (.seq (r [o 4 (.mv (i (-1)))] [4]) .ret))),[.t 4]⟩
theorem slices_IndexFunc_Value_Value_ok : cFn Tryz.prog (kps [[0,1],[0,1,7,8],[0,1,7,8,9],[0,1,5,7,8],[0,1,5,7,8,16],[4],[0,1,7,8],[4]]) [] 228 = some slices_IndexFunc_Value_Value_c := by kernel_rfl
abbrev na : Nat := 229
def slices_IndexFunc_Type_Type_c : MFn := ⟨19,(.seq (r [o 4 (.mv (i 0))] [0,1]) (.seq (.seq (r [o 6 (.mv (.t 0)),o 7 (.lenS (.t 6)),o 8 (.mv (i 0))] [0,1,7,8]) (.block 0 (.loop (.seq (r [o 9 (.bin .lss (.t 8) (.t 7))] [0,1,7,8,9]) (.seq (.cond (.t 9) .skip (.exit 0)) (.seq (.block 1 (.seq (r [o 10 (.mv (.t 8)),o 5 (.mv (.t 10))] [0,1,5,7,8]) (.seq (r [o 11 (.mv (.t 1)),o 12 (.mv (.t 0)),o 13 (.mv (.t 5)),o 14 (.ixA 2 (.t 12) (.t 13)),o 15 (.ld (some 2) (.t 14)),o 16 (.callV (.t 11) [(.t 15)])] [0,1,5,7,8,16]) (.cond (.t 16) (.seq (r [o 17 (.mv (.t 5)),o 4 (.mv (.t 17))] [4]) .ret) .skip)))) (r [o 18 (.bin .add (.t 8) (i 1)),o 8 (.mv (.t 18))] [0,1,7,8]))))))) (.seq (r [o 4 (.mv (i (-1)))] [4]) .ret))),[.t 4]⟩
theorem slices_IndexFunc_Type_Type_ok : cFn Tryz.prog (kps [[0,1],[0,1,7,8],[0,1,7,8,9],[0,1,5,7,8],[0,1,5,7,8,16],[4],[0,1,7,8],[4]]) [] 229 = some slices_IndexFunc_Type_Type_c := by kernel_rfl
end Go.Proofs.YtmjgehbpcchjpaaGreatDoor.F

namespace Go.Proofs.YtmjgehbpcchjpaaGreatDoor
open Go Go.Proofs Go.Proofs.YtmjgehbpcchjpaaGreatDoor.E
def rA (f : Nat) : Option MFn :=
 (match Nat.blt f 132 with
 | true =>
   (match Nat.blt f 78 with
   | true =>
     (match Nat.blt f 42 with
     | true =>
       (match Nat.blt f 31 with
       | true =>
         (match Nat.blt f 22 with
         | true =>
           (match Nat.blt f 17 with
           | true =>
             (match Nat.beq f 16 with | true => some F.law04_awake_c | false => none)
           | false =>
             (match Nat.blt f 20 with
             | true =>
               (match Nat.beq f 17 with | true => some F.mass_Mix_c | false => none)
             | false =>
               (match Nat.beq f 20 with | true => some F.mass_Add_c | false => none)))
         | false =>
           (match Nat.blt f 25 with
           | true =>
             (match Nat.beq f 22 with | true => some F.mass_Scale_c | false => none)
           | false =>
             (match Nat.blt f 27 with
             | true =>
               (match Nat.beq f 25 with | true => some F.mass_Answer_c | false => none)
             | false =>
               (match Nat.beq f 27 with | true => some F.mass_Bounds_c | false => none))))
       | false =>
         (match Nat.blt f 37 with
         | true =>
           (match Nat.blt f 33 with
           | true =>
             (match Nat.beq f 31 with | true => some F.mass_Same_c | false => none)
           | false =>
             (match Nat.blt f 36 with
             | true =>
               (match Nat.beq f 33 with | true => some F.mass_Text_c | false => none)
             | false =>
               (match Nat.beq f 36 with | true => some F.ratio_Sign_c | false => none)))
         | false =>
           (match Nat.blt f 40 with
           | true =>
             (match Nat.blt f 39 with
             | true =>
               (match Nat.beq f 37 with | true => some F.mass_Right_c | false => none)
             | false =>
               (match Nat.beq f 39 with | true => some F.ratio_Mul_c | false => none))
           | false =>
             (match Nat.blt f 41 with
             | true =>
               (match Nat.beq f 40 with | true => some F.ratio_Add_c | false => none)
             | false =>
               (match Nat.beq f 41 with | true => some F.ratio_Same_c | false => none)))))
     | false =>
       (match Nat.blt f 50 with
       | true =>
         (match Nat.blt f 46 with
         | true =>
           (match Nat.blt f 43 with
           | true =>
             (match Nat.beq f 42 with | true => some F.mass_Total_c | false => none)
           | false =>
             (match Nat.blt f 45 with
             | true =>
               (match Nat.beq f 43 with | true => some F.ratio_Div_c | false => none)
             | false =>
               (match Nat.beq f 45 with | true => some F.ratio_Zero_c | false => none)))
         | false =>
           (match Nat.blt f 47 with
           | true =>
             (match Nat.beq f 46 with | true => some F.law04_one_c | false => none)
           | false =>
             (match Nat.blt f 48 with
             | true =>
               (match Nat.beq f 47 with | true => some F.ratio_Compare_c | false => none)
             | false =>
               (match Nat.beq f 48 with | true => some F.ratio_One_c | false => none))))
       | false =>
         (match Nat.blt f 74 with
         | true =>
           (match Nat.blt f 54 with
           | true =>
             (match Nat.beq f 50 with | true => some F.mass_Of_c | false => none)
           | false =>
             (match Nat.blt f 64 with
             | true =>
               (match Nat.beq f 54 with | true => some F.mass_Weight_c | false => none)
             | false =>
               (match Nat.beq f 64 with | true => some F.law04_number_c | false => none)))
         | false =>
           (match Nat.blt f 76 with
           | true =>
             (match Nat.blt f 75 with
             | true =>
               (match Nat.beq f 74 with | true => some F.law04_truth_c | false => none)
             | false =>
               (match Nat.beq f 75 with | true => some F.law04_made_c | false => none))
           | false =>
             (match Nat.blt f 77 with
             | true =>
               (match Nat.beq f 76 with | true => some F.ratio_Text_c | false => none)
             | false =>
               (match Nat.beq f 77 with | true => some F.weights_Mix_c | false => none))))))
   | false =>
     (match Nat.blt f 108 with
     | true =>
       (match Nat.blt f 93 with
       | true =>
         (match Nat.blt f 86 with
         | true =>
           (match Nat.blt f 80 with
           | true =>
             (match Nat.beq f 78 with | true => some F.own_Mass_c | false => none)
           | false =>
             (match Nat.blt f 83 with
             | true =>
               (match Nat.beq f 80 with | true => some F.weights_Add_c | false => none)
             | false =>
               (match Nat.beq f 83 with | true => some F.weights_Scale_c | false => none)))
         | false =>
           (match Nat.blt f 87 with
           | true =>
             (match Nat.beq f 86 with | true => some F.weights_Answer_c | false => none)
           | false =>
             (match Nat.blt f 91 with
             | true =>
               (match Nat.beq f 87 with | true => some F.own_Parts_c | false => none)
             | false =>
               (match Nat.beq f 91 with | true => some F.weights_Bounds_c | false => none))))
       | false =>
         (match Nat.blt f 104 with
         | true =>
           (match Nat.blt f 96 with
           | true =>
             (match Nat.beq f 93 with | true => some F.weights_Same_c | false => none)
           | false =>
             (match Nat.blt f 103 with
             | true =>
               (match Nat.beq f 96 with | true => some F.weights_Text_c | false => none)
             | false =>
               (match Nat.beq f 103 with | true => some F.nat_Compare_c | false => none)))
         | false =>
           (match Nat.blt f 106 with
           | true =>
             (match Nat.blt f 105 with
             | true =>
               (match Nat.beq f 104 with | true => some F.weights_Right_c | false => none)
             | false =>
               (match Nat.beq f 105 with | true => some F.weights_None_c | false => none))
           | false =>
             (match Nat.blt f 107 with
             | true =>
               (match Nat.beq f 106 with | true => some F.ratio_made_c | false => none)
             | false =>
               (match Nat.beq f 107 with | true => some F.nat_Mul_c | false => none)))))
     | false =>
       (match Nat.blt f 121 with
       | true =>
         (match Nat.blt f 111 with
         | true =>
           (match Nat.blt f 109 with
           | true =>
             (match Nat.beq f 108 with | true => some F.nat_Add_c | false => none)
           | false =>
             (match Nat.blt f 110 with
             | true =>
               (match Nat.beq f 109 with | true => some F.nat_Sub_c | false => none)
             | false =>
               (match Nat.beq f 110 with | true => some F.weights_Total_c | false => none)))
         | false =>
           (match Nat.blt f 114 with
           | true =>
             (match Nat.blt f 112 with
             | true =>
               (match Nat.beq f 111 with | true => some F.weights_Values_c | false => none)
             | false =>
               (match Nat.beq f 112 with | true => some F.nat_Of_c | false => none))
           | false =>
             (match Nat.blt f 118 with
             | true =>
               (match Nat.beq f 114 with | true => some F.weights_Of_c | false => none)
             | false =>
               (match Nat.beq f 118 with | true => some F.weights_Weight_c | false => none))))
       | false =>
         (match Nat.blt f 126 with
         | true =>
           (match Nat.blt f 124 with
           | true =>
             (match Nat.beq f 121 with | true => some F.own_Value_c | false => none)
           | false =>
             (match Nat.blt f 125 with
             | true =>
               (match Nat.beq f 124 with | true => some F.ratio_Make_c | false => none)
             | false =>
               (match Nat.beq f 125 with | true => some F.nat_Text_c | false => none)))
         | false =>
           (match Nat.blt f 128 with
           | true =>
             (match Nat.blt f 127 with
             | true =>
               (match Nat.beq f 126 with | true => some F.nat_Small_c | false => none)
             | false =>
               (match Nat.beq f 127 with | true => some F.weights_gather_c | false => none))
           | false =>
             (match Nat.blt f 129 with
             | true =>
               (match Nat.beq f 128 with | true => some F.weights_come_c | false => none)
             | false =>
               (match Nat.beq f 129 with | true => some F.own_Ratio_c | false => none)))))))
 | false =>
   (match Nat.blt f 188 with
   | true =>
     (match Nat.blt f 161 with
     | true =>
       (match Nat.blt f 153 with
       | true =>
         (match Nat.blt f 140 with
         | true =>
           (match Nat.blt f 138 with
           | true =>
             (match Nat.beq f 132 with | true => some F.slices_Concat_Part_Part_c | false => none)
           | false =>
             (match Nat.blt f 139 with
             | true =>
               (match Nat.beq f 138 with | true => some F.slices_EqualFunc_Part_Part_Part_Part_c | false => none)
             | false =>
               (match Nat.beq f 139 with | true => some F.weights_Same_1_c | false => none)))
         | false =>
           (match Nat.blt f 142 with
           | true =>
             (match Nat.beq f 140 with | true => some F.value_Same_c | false => none)
           | false =>
             (match Nat.blt f 152 with
             | true =>
               (match Nat.beq f 142 with | true => some F.value_Text_c | false => none)
             | false =>
               (match Nat.beq f 152 with | true => some F.nat_trim_c | false => none))))
       | false =>
         (match Nat.blt f 156 with
         | true =>
           (match Nat.blt f 154 with
           | true =>
             (match Nat.beq f 153 with | true => some F.value_Right_c | false => none)
           | false =>
             (match Nat.blt f 155 with
             | true =>
               (match Nat.beq f 154 with | true => some F.weights_fine_c | false => none)
             | false =>
               (match Nat.beq f 155 with | true => some F.value_Compare_c | false => none)))
         | false =>
           (match Nat.blt f 158 with
           | true =>
             (match Nat.blt f 157 with
             | true =>
               (match Nat.beq f 156 with | true => some F.ratio_Of_c | false => none)
             | false =>
               (match Nat.beq f 157 with | true => some F.ratio_Sum_c | false => none))
           | false =>
             (match Nat.blt f 160 with
             | true =>
               (match Nat.beq f 158 with | true => some F.slices_Clone_Nat_uint32_c | false => none)
             | false =>
               (match Nat.beq f 160 with | true => some F.own_Values_c | false => none)))))
     | false =>
       (match Nat.blt f 173 with
       | true =>
         (match Nat.blt f 164 with
         | true =>
           (match Nat.blt f 162 with
           | true =>
             (match Nat.beq f 161 with | true => some F.ratio_size_c | false => none)
           | false =>
             (match Nat.blt f 163 with
             | true =>
               (match Nat.beq f 162 with | true => some F.nat_short_c | false => none)
             | false =>
               (match Nat.beq f 163 with | true => some F.slices_Reverse_Sbyte_byte_c | false => none)))
         | false =>
           (match Nat.blt f 166 with
           | true =>
             (match Nat.blt f 165 with
             | true =>
               (match Nat.beq f 164 with | true => some F.slices_Clone_Part_Part_c | false => none)
             | false =>
               (match Nat.beq f 165 with | true => some F.slices_SortStableFunc_Part_Part_c | false => none))
           | false =>
             (match Nat.blt f 169 with
             | true =>
               (match Nat.beq f 166 with | true => some F.weights_come_1_c | false => none)
             | false =>
               (match Nat.beq f 169 with | true => some F.slices_Grow_Part_Part_c | false => none))))
       | false =>
         (match Nat.blt f 184 with
         | true =>
           (match Nat.blt f 174 with
           | true =>
             (match Nat.beq f 173 with | true => some F.strings_Join_c | false => none)
           | false =>
             (match Nat.blt f 175 with
             | true =>
               (match Nat.beq f 174 with | true => some F.strconv_FormatBool_c | false => none)
             | false =>
               (match Nat.beq f 175 with | true => some F.strconv_Itoa_c | false => none)))
         | false =>
           (match Nat.blt f 186 with
           | true =>
             (match Nat.blt f 185 with
             | true =>
               (match Nat.beq f 184 with | true => some F.value_shape_c | false => none)
             | false =>
               (match Nat.beq f 185 with | true => some F.value_TypeRight_c | false => none))
           | false =>
             (match Nat.blt f 187 with
             | true =>
               (match Nat.beq f 186 with | true => some F.value_closed_c | false => none)
             | false =>
               (match Nat.beq f 187 with | true => some F.value_Size_c | false => none))))))
   | false =>
     (match Nat.blt f 208 with
     | true =>
       (match Nat.blt f 201 with
       | true =>
         (match Nat.blt f 191 with
         | true =>
           (match Nat.blt f 189 with
           | true =>
             (match Nat.beq f 188 with | true => some F.ratio_Right_c | false => none)
           | false =>
             (match Nat.blt f 190 with
             | true =>
               (match Nat.beq f 189 with | true => some F.cmp_Compare_int_c | false => none)
             | false =>
               (match Nat.beq f 190 with | true => some F.slices_CompareFunc_Value_Value_Value_Value_c | false => none)))
         | false =>
           (match Nat.blt f 192 with
           | true =>
             (match Nat.beq f 191 with | true => some F.nat_Gcd_c | false => none)
           | false =>
             (match Nat.blt f 193 with
             | true =>
               (match Nat.beq f 192 with | true => some F.nat_Div_c | false => none)
             | false =>
               (match Nat.beq f 193 with | true => some F.slices_stableCmpFunc_Part_c | false => none))))
       | false =>
         (match Nat.blt f 204 with
         | true =>
           (match Nat.blt f 202 with
           | true =>
             (match Nat.beq f 201 with | true => some F.internal_strconv_FormatBool_c | false => none)
           | false =>
             (match Nat.blt f 203 with
             | true =>
               (match Nat.beq f 202 with | true => some F.internal_strconv_Itoa_c | false => none)
             | false =>
               (match Nat.beq f 203 with | true => some F.value_has_c | false => none)))
         | false =>
           (match Nat.blt f 206 with
           | true =>
             (match Nat.blt f 205 with
             | true =>
               (match Nat.beq f 204 with | true => some F.value_join_c | false => none)
             | false =>
               (match Nat.beq f 205 with | true => some F.value_deep_c | false => none))
           | false =>
             (match Nat.blt f 207 with
             | true =>
               (match Nat.beq f 206 with | true => some F.nat_Right_c | false => none)
             | false =>
               (match Nat.beq f 207 with | true => some F.cmp_isNaN_int_c | false => none)))))
     | false =>
       (match Nat.blt f 218 with
       | true =>
         (match Nat.blt f 211 with
         | true =>
           (match Nat.blt f 209 with
           | true =>
             (match Nat.beq f 208 with | true => some F.math_bits_LeadingZeros32_c | false => none)
           | false =>
             (match Nat.blt f 210 with
             | true =>
               (match Nat.beq f 209 with | true => some F.nat_shifted_c | false => none)
             | false =>
               (match Nat.beq f 210 with | true => some F.slices_insertionSortCmpFunc_Part_c | false => none)))
         | false =>
           (match Nat.blt f 216 with
           | true =>
             (match Nat.blt f 215 with
             | true =>
               (match Nat.beq f 211 with | true => some F.slices_symMergeCmpFunc_Part_c | false => none)
             | false =>
               (match Nat.beq f 215 with | true => some F.slices_EqualFunc_Type_Value_Type_Value_c | false => none))
           | false =>
             (match Nat.blt f 217 with
             | true =>
               (match Nat.beq f 216 with | true => some F.slices_ContainsFunc_Value_Value_c | false => none)
             | false =>
               (match Nat.beq f 217 with | true => some F.value_has_1_c | false => none))))
       | false =>
         (match Nat.blt f 221 with
         | true =>
           (match Nat.blt f 219 with
           | true =>
             (match Nat.beq f 218 with | true => some F.slices_ContainsFunc_Type_Type_c | false => none)
           | false =>
             (match Nat.blt f 220 with
             | true =>
               (match Nat.beq f 219 with | true => some F.value_deep_1_c | false => none)
             | false =>
               (match Nat.beq f 220 with | true => some F.math_bits_Len32_c | false => none)))
         | false =>
           (match Nat.blt f 229 with
           | true =>
             (match Nat.blt f 228 with
             | true =>
               (match Nat.beq f 221 with | true => some F.slices_rotateCmpFunc_Part_c | false => none)
             | false =>
               (match Nat.beq f 228 with | true => some F.slices_IndexFunc_Value_Value_c | false => none))
           | false =>
             (match Nat.blt f 230 with
             | true =>
               (match Nat.beq f 229 with | true => some F.slices_IndexFunc_Type_Type_c | false => none)
             | false =>
               (match Nat.beq f 230 with | true => some F.slices_swapRangeCmpFunc_Part_c | false => none))))))))
theorem qI : TabOK Tryz.prog rA := by
 intro f mf h
 unfold rA at h
 repeat' split at h
 all_goals first | (simp at h; done) | skip
 ·rename_i e; have e := Nat.eq_of_beq_eq_true e; subst e; injection h with h; subst h; exact ⟨_, _, F.law04_awake_ok⟩
 ·rename_i e; have e := Nat.eq_of_beq_eq_true e; subst e; injection h with h; subst h; exact ⟨_, _, F.mass_Mix_ok⟩
 ·rename_i e; have e := Nat.eq_of_beq_eq_true e; subst e; injection h with h; subst h; exact ⟨_, _, F.mass_Add_ok⟩
 ·rename_i e; have e := Nat.eq_of_beq_eq_true e; subst e; injection h with h; subst h; exact ⟨_, _, F.mass_Scale_ok⟩
 ·rename_i e; have e := Nat.eq_of_beq_eq_true e; subst e; injection h with h; subst h; exact ⟨_, _, F.mass_Answer_ok⟩
 ·rename_i e; have e := Nat.eq_of_beq_eq_true e; subst e; injection h with h; subst h; exact ⟨_, _, F.mass_Bounds_ok⟩
 ·rename_i e; have e := Nat.eq_of_beq_eq_true e; subst e; injection h with h; subst h; exact ⟨_, _, F.mass_Same_ok⟩
 ·rename_i e; have e := Nat.eq_of_beq_eq_true e; subst e; injection h with h; subst h; exact ⟨_, _, F.mass_Text_ok⟩
 ·rename_i e; have e := Nat.eq_of_beq_eq_true e; subst e; injection h with h; subst h; exact ⟨_, _, F.ratio_Sign_ok⟩
 ·rename_i e; have e := Nat.eq_of_beq_eq_true e; subst e; injection h with h; subst h; exact ⟨_, _, F.mass_Right_ok⟩
 ·rename_i e; have e := Nat.eq_of_beq_eq_true e; subst e; injection h with h; subst h; exact ⟨_, _, F.ratio_Mul_ok⟩
 ·rename_i e; have e := Nat.eq_of_beq_eq_true e; subst e; injection h with h; subst h; exact ⟨_, _, F.ratio_Add_ok⟩
 ·rename_i e; have e := Nat.eq_of_beq_eq_true e; subst e; injection h with h; subst h; exact ⟨_, _, F.ratio_Same_ok⟩
 ·rename_i e; have e := Nat.eq_of_beq_eq_true e; subst e; injection h with h; subst h; exact ⟨_, _, F.mass_Total_ok⟩
 ·rename_i e; have e := Nat.eq_of_beq_eq_true e; subst e; injection h with h; subst h; exact ⟨_, _, F.ratio_Div_ok⟩
 ·rename_i e; have e := Nat.eq_of_beq_eq_true e; subst e; injection h with h; subst h; exact ⟨_, _, F.ratio_Zero_ok⟩
 ·rename_i e; have e := Nat.eq_of_beq_eq_true e; subst e; injection h with h; subst h; exact ⟨_, _, F.law04_one_ok⟩
 ·rename_i e; have e := Nat.eq_of_beq_eq_true e; subst e; injection h with h; subst h; exact ⟨_, _, F.ratio_Compare_ok⟩
 ·rename_i e; have e := Nat.eq_of_beq_eq_true e; subst e; injection h with h; subst h; exact ⟨_, _, F.ratio_One_ok⟩
 ·rename_i e; have e := Nat.eq_of_beq_eq_true e; subst e; injection h with h; subst h; exact ⟨_, _, F.mass_Of_ok⟩
 ·rename_i e; have e := Nat.eq_of_beq_eq_true e; subst e; injection h with h; subst h; exact ⟨_, _, F.mass_Weight_ok⟩
 ·rename_i e; have e := Nat.eq_of_beq_eq_true e; subst e; injection h with h; subst h; exact ⟨_, _, F.law04_number_ok⟩
 ·rename_i e; have e := Nat.eq_of_beq_eq_true e; subst e; injection h with h; subst h; exact ⟨_, _, F.law04_truth_ok⟩
 ·rename_i e; have e := Nat.eq_of_beq_eq_true e; subst e; injection h with h; subst h; exact ⟨_, _, F.law04_made_ok⟩
 ·rename_i e; have e := Nat.eq_of_beq_eq_true e; subst e; injection h with h; subst h; exact ⟨_, _, F.ratio_Text_ok⟩
 ·rename_i e; have e := Nat.eq_of_beq_eq_true e; subst e; injection h with h; subst h; exact ⟨_, _, F.weights_Mix_ok⟩
 ·rename_i e; have e := Nat.eq_of_beq_eq_true e; subst e; injection h with h; subst h; exact ⟨_, _, F.own_Mass_ok⟩
 ·rename_i e; have e := Nat.eq_of_beq_eq_true e; subst e; injection h with h; subst h; exact ⟨_, _, F.weights_Add_ok⟩
 ·rename_i e; have e := Nat.eq_of_beq_eq_true e; subst e; injection h with h; subst h; exact ⟨_, _, F.weights_Scale_ok⟩
 ·rename_i e; have e := Nat.eq_of_beq_eq_true e; subst e; injection h with h; subst h; exact ⟨_, _, F.weights_Answer_ok⟩
 ·rename_i e; have e := Nat.eq_of_beq_eq_true e; subst e; injection h with h; subst h; exact ⟨_, _, F.own_Parts_ok⟩
 ·rename_i e; have e := Nat.eq_of_beq_eq_true e; subst e; injection h with h; subst h; exact ⟨_, _, F.weights_Bounds_ok⟩
 ·rename_i e; have e := Nat.eq_of_beq_eq_true e; subst e; injection h with h; subst h; exact ⟨_, _, F.weights_Same_ok⟩
 ·rename_i e; have e := Nat.eq_of_beq_eq_true e; subst e; injection h with h; subst h; exact ⟨_, _, F.weights_Text_ok⟩
 ·rename_i e; have e := Nat.eq_of_beq_eq_true e; subst e; injection h with h; subst h; exact ⟨_, _, F.nat_Compare_ok⟩
 ·rename_i e; have e := Nat.eq_of_beq_eq_true e; subst e; injection h with h; subst h; exact ⟨_, _, F.weights_Right_ok⟩
 ·rename_i e; have e := Nat.eq_of_beq_eq_true e; subst e; injection h with h; subst h; exact ⟨_, _, F.weights_None_ok⟩
 ·rename_i e; have e := Nat.eq_of_beq_eq_true e; subst e; injection h with h; subst h; exact ⟨_, _, F.ratio_made_ok⟩
 ·rename_i e; have e := Nat.eq_of_beq_eq_true e; subst e; injection h with h; subst h; exact ⟨_, _, F.nat_Mul_ok⟩
 ·rename_i e; have e := Nat.eq_of_beq_eq_true e; subst e; injection h with h; subst h; exact ⟨_, _, F.nat_Add_ok⟩
 ·rename_i e; have e := Nat.eq_of_beq_eq_true e; subst e; injection h with h; subst h; exact ⟨_, _, F.nat_Sub_ok⟩
 ·rename_i e; have e := Nat.eq_of_beq_eq_true e; subst e; injection h with h; subst h; exact ⟨_, _, F.weights_Total_ok⟩
 ·rename_i e; have e := Nat.eq_of_beq_eq_true e; subst e; injection h with h; subst h; exact ⟨_, _, F.weights_Values_ok⟩
 ·rename_i e; have e := Nat.eq_of_beq_eq_true e; subst e; injection h with h; subst h; exact ⟨_, _, F.nat_Of_ok⟩
 ·rename_i e; have e := Nat.eq_of_beq_eq_true e; subst e; injection h with h; subst h; exact ⟨_, _, F.weights_Of_ok⟩
 ·rename_i e; have e := Nat.eq_of_beq_eq_true e; subst e; injection h with h; subst h; exact ⟨_, _, F.weights_Weight_ok⟩
 ·rename_i e; have e := Nat.eq_of_beq_eq_true e; subst e; injection h with h; subst h; exact ⟨_, _, F.own_Value_ok⟩
 ·rename_i e; have e := Nat.eq_of_beq_eq_true e; subst e; injection h with h; subst h; exact ⟨_, _, F.ratio_Make_ok⟩
 ·rename_i e; have e := Nat.eq_of_beq_eq_true e; subst e; injection h with h; subst h; exact ⟨_, _, F.nat_Text_ok⟩
 ·rename_i e; have e := Nat.eq_of_beq_eq_true e; subst e; injection h with h; subst h; exact ⟨_, _, F.nat_Small_ok⟩
 ·rename_i e; have e := Nat.eq_of_beq_eq_true e; subst e; injection h with h; subst h; exact ⟨_, _, F.weights_gather_ok⟩
 ·rename_i e; have e := Nat.eq_of_beq_eq_true e; subst e; injection h with h; subst h; exact ⟨_, _, F.weights_come_ok⟩
 ·rename_i e; have e := Nat.eq_of_beq_eq_true e; subst e; injection h with h; subst h; exact ⟨_, _, F.own_Ratio_ok⟩
 ·rename_i e; have e := Nat.eq_of_beq_eq_true e; subst e; injection h with h; subst h; exact ⟨_, _, F.slices_Concat_Part_Part_ok⟩
 ·rename_i e; have e := Nat.eq_of_beq_eq_true e; subst e; injection h with h; subst h; exact ⟨_, _, F.slices_EqualFunc_Part_Part_Part_Part_ok⟩
 ·rename_i e; have e := Nat.eq_of_beq_eq_true e; subst e; injection h with h; subst h; exact ⟨_, _, F.weights_Same_1_ok⟩
 ·rename_i e; have e := Nat.eq_of_beq_eq_true e; subst e; injection h with h; subst h; exact ⟨_, _, F.value_Same_ok⟩
 ·rename_i e; have e := Nat.eq_of_beq_eq_true e; subst e; injection h with h; subst h; exact ⟨_, _, F.value_Text_ok⟩
 ·rename_i e; have e := Nat.eq_of_beq_eq_true e; subst e; injection h with h; subst h; exact ⟨_, _, F.nat_trim_ok⟩
 ·rename_i e; have e := Nat.eq_of_beq_eq_true e; subst e; injection h with h; subst h; exact ⟨_, _, F.value_Right_ok⟩
 ·rename_i e; have e := Nat.eq_of_beq_eq_true e; subst e; injection h with h; subst h; exact ⟨_, _, F.weights_fine_ok⟩
 ·rename_i e; have e := Nat.eq_of_beq_eq_true e; subst e; injection h with h; subst h; exact ⟨_, _, F.value_Compare_ok⟩
 ·rename_i e; have e := Nat.eq_of_beq_eq_true e; subst e; injection h with h; subst h; exact ⟨_, _, F.ratio_Of_ok⟩
 ·rename_i e; have e := Nat.eq_of_beq_eq_true e; subst e; injection h with h; subst h; exact ⟨_, _, F.ratio_Sum_ok⟩
 ·rename_i e; have e := Nat.eq_of_beq_eq_true e; subst e; injection h with h; subst h; exact ⟨_, _, F.slices_Clone_Nat_uint32_ok⟩
 ·rename_i e; have e := Nat.eq_of_beq_eq_true e; subst e; injection h with h; subst h; exact ⟨_, _, F.own_Values_ok⟩
 ·rename_i e; have e := Nat.eq_of_beq_eq_true e; subst e; injection h with h; subst h; exact ⟨_, _, F.ratio_size_ok⟩
 ·rename_i e; have e := Nat.eq_of_beq_eq_true e; subst e; injection h with h; subst h; exact ⟨_, _, F.nat_short_ok⟩
 ·rename_i e; have e := Nat.eq_of_beq_eq_true e; subst e; injection h with h; subst h; exact ⟨_, _, F.slices_Reverse_Sbyte_byte_ok⟩
 ·rename_i e; have e := Nat.eq_of_beq_eq_true e; subst e; injection h with h; subst h; exact ⟨_, _, F.slices_Clone_Part_Part_ok⟩
 ·rename_i e; have e := Nat.eq_of_beq_eq_true e; subst e; injection h with h; subst h; exact ⟨_, _, F.slices_SortStableFunc_Part_Part_ok⟩
 ·rename_i e; have e := Nat.eq_of_beq_eq_true e; subst e; injection h with h; subst h; exact ⟨_, _, F.weights_come_1_ok⟩
 ·rename_i e; have e := Nat.eq_of_beq_eq_true e; subst e; injection h with h; subst h; exact ⟨_, _, F.slices_Grow_Part_Part_ok⟩
 ·rename_i e; have e := Nat.eq_of_beq_eq_true e; subst e; injection h with h; subst h; exact ⟨_, _, F.strings_Join_ok⟩
 ·rename_i e; have e := Nat.eq_of_beq_eq_true e; subst e; injection h with h; subst h; exact ⟨_, _, F.strconv_FormatBool_ok⟩
 ·rename_i e; have e := Nat.eq_of_beq_eq_true e; subst e; injection h with h; subst h; exact ⟨_, _, F.strconv_Itoa_ok⟩
 ·rename_i e; have e := Nat.eq_of_beq_eq_true e; subst e; injection h with h; subst h; exact ⟨_, _, F.value_shape_ok⟩
 ·rename_i e; have e := Nat.eq_of_beq_eq_true e; subst e; injection h with h; subst h; exact ⟨_, _, F.value_TypeRight_ok⟩
 ·rename_i e; have e := Nat.eq_of_beq_eq_true e; subst e; injection h with h; subst h; exact ⟨_, _, F.value_closed_ok⟩
 ·rename_i e; have e := Nat.eq_of_beq_eq_true e; subst e; injection h with h; subst h; exact ⟨_, _, F.value_Size_ok⟩
 ·rename_i e; have e := Nat.eq_of_beq_eq_true e; subst e; injection h with h; subst h; exact ⟨_, _, F.ratio_Right_ok⟩
 ·rename_i e; have e := Nat.eq_of_beq_eq_true e; subst e; injection h with h; subst h; exact ⟨_, _, F.cmp_Compare_int_ok⟩
 ·rename_i e; have e := Nat.eq_of_beq_eq_true e; subst e; injection h with h; subst h; exact ⟨_, _, F.slices_CompareFunc_Value_Value_Value_Value_ok⟩
 ·rename_i e; have e := Nat.eq_of_beq_eq_true e; subst e; injection h with h; subst h; exact ⟨_, _, F.nat_Gcd_ok⟩
 ·rename_i e; have e := Nat.eq_of_beq_eq_true e; subst e; injection h with h; subst h; exact ⟨_, _, F.nat_Div_ok⟩
 ·rename_i e; have e := Nat.eq_of_beq_eq_true e; subst e; injection h with h; subst h; exact ⟨_, _, F.slices_stableCmpFunc_Part_ok⟩
 ·rename_i e; have e := Nat.eq_of_beq_eq_true e; subst e; injection h with h; subst h; exact ⟨_, _, F.internal_strconv_FormatBool_ok⟩
 ·rename_i e; have e := Nat.eq_of_beq_eq_true e; subst e; injection h with h; subst h; exact ⟨_, _, F.internal_strconv_Itoa_ok⟩
 ·rename_i e; have e := Nat.eq_of_beq_eq_true e; subst e; injection h with h; subst h; exact ⟨_, _, F.value_has_ok⟩
 ·rename_i e; have e := Nat.eq_of_beq_eq_true e; subst e; injection h with h; subst h; exact ⟨_, _, F.value_join_ok⟩
 ·rename_i e; have e := Nat.eq_of_beq_eq_true e; subst e; injection h with h; subst h; exact ⟨_, _, F.value_deep_ok⟩
 ·rename_i e; have e := Nat.eq_of_beq_eq_true e; subst e; injection h with h; subst h; exact ⟨_, _, F.nat_Right_ok⟩
 ·rename_i e; have e := Nat.eq_of_beq_eq_true e; subst e; injection h with h; subst h; exact ⟨_, _, F.cmp_isNaN_int_ok⟩
 ·rename_i e; have e := Nat.eq_of_beq_eq_true e; subst e; injection h with h; subst h; exact ⟨_, _, F.math_bits_LeadingZeros32_ok⟩
 ·rename_i e; have e := Nat.eq_of_beq_eq_true e; subst e; injection h with h; subst h; exact ⟨_, _, F.nat_shifted_ok⟩
 ·rename_i e; have e := Nat.eq_of_beq_eq_true e; subst e; injection h with h; subst h; exact ⟨_, _, F.slices_insertionSortCmpFunc_Part_ok⟩
 ·rename_i e; have e := Nat.eq_of_beq_eq_true e; subst e; injection h with h; subst h; exact ⟨_, _, F.slices_symMergeCmpFunc_Part_ok⟩
 ·rename_i e; have e := Nat.eq_of_beq_eq_true e; subst e; injection h with h; subst h; exact ⟨_, _, F.slices_EqualFunc_Type_Value_Type_Value_ok⟩
 ·rename_i e; have e := Nat.eq_of_beq_eq_true e; subst e; injection h with h; subst h; exact ⟨_, _, F.slices_ContainsFunc_Value_Value_ok⟩
 ·rename_i e; have e := Nat.eq_of_beq_eq_true e; subst e; injection h with h; subst h; exact ⟨_, _, F.value_has_1_ok⟩
 ·rename_i e; have e := Nat.eq_of_beq_eq_true e; subst e; injection h with h; subst h; exact ⟨_, _, F.slices_ContainsFunc_Type_Type_ok⟩
 ·rename_i e; have e := Nat.eq_of_beq_eq_true e; subst e; injection h with h; subst h; exact ⟨_, _, F.value_deep_1_ok⟩
 ·rename_i e; have e := Nat.eq_of_beq_eq_true e; subst e; injection h with h; subst h; exact ⟨_, _, F.math_bits_Len32_ok⟩
 ·rename_i e; have e := Nat.eq_of_beq_eq_true e; subst e; injection h with h; subst h; exact ⟨_, _, F.slices_rotateCmpFunc_Part_ok⟩
 ·rename_i e; have e := Nat.eq_of_beq_eq_true e; subst e; injection h with h; subst h; exact ⟨_, _, F.slices_IndexFunc_Value_Value_ok⟩
 ·rename_i e; have e := Nat.eq_of_beq_eq_true e; subst e; injection h with h; subst h; exact ⟨_, _, F.slices_IndexFunc_Type_Type_ok⟩
 ·rename_i e; have e := Nat.eq_of_beq_eq_true e; subst e; injection h with h; subst h; exact ⟨_, _, F.slices_swapRangeCmpFunc_Part_ok⟩
def alivMX (f : Nat) : Bool := match Nat.beq f F.nat_shifted || (Nat.beq f F.slices_SortStableFunc_Part_Part || (Nat.beq f F.slices_stableCmpFunc_Part || (Nat.beq f F.slices_insertionSortCmpFunc_Part || (Nat.beq f F.slices_Reverse_Sbyte_byte || (Nat.beq f F.weights_gather || (Nat.beq f F.slices_Grow_Part_Part || (Nat.beq f F.weights_come || (Nat.beq f F.weights_None || Nat.beq f F.slices_Clone_Part_Part)))))))) with | true => true | false => false
def alivMB (f : Nat) (ds : List V) : Option V :=
 match Nat.beq f F.slices_Clone_Nat_uint32 with
 | true => match ds with
   | [.dat []] => some (.dat [])
   | _ => none
 | false => match Nat.beq f F.slices_Clone_Part_Part with
   | true => match ds with
     | [.dat []] => some (.dat [])
     | _ => none
   | false => ratB f ds
theorem r5 : BOK Tryz.prog alivMB := by
 intro f ds d h
 unfold alivMB at h
 split at h
 ·rename_i e
  have e := Nat.eq_of_beq_eq_true e
  subst e
  split at h
  ·injection h with h
   subst h
   exact dz (l := []) (by simp)
  ·simp at h
 split at h
 ·rename_i e
  have e := Nat.eq_of_beq_eq_true e
  subst e
  split at h
  ·injection h with h
   subst h
   exact kU
  ·simp at h
 ·exact ratB_ok f ds d h
set_option maxRecDepth 100000 in
theorem law04_awake : CallD Tryz.prog F.law04_awake [] (· = .bool true) :=
 sh (X := alivMX) qI r5 100 (by kernel_rfl)
end Go.Proofs.YtmjgehbpcchjpaaGreatDoor
