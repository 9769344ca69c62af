import Derived.Test.YtipbefckimdkkaaGreatGD
import Derived.Test.YtipbefckimdkkaaGreatGG
import Derived.Test.YtipbefckimdkkaaGreatGC
import Derived.Test.YtipbefckimdkkaaGreatProg
import Derived.KernelRfl
namespace Go.Proofs.YtipbefckimdkkaaGreat.F
open Go Go.Proofs Go.Proofs.YtipbefckimdkkaaGreat.E Go.Proofs.YtipbefckimdkkaaGreat.Q
abbrev cmp_isNaN_int : Nat := 151
def cmp_isNaN_int_c : MFn := ⟨6,(.seq (r [o 2 (.mv (.c (.bool false)))] [0]) (.seq (r [o 3 (.mv (.t 0)),o 4 (.mv (.t 0)),o 5 (.bin .neq (.t 3) (.t 4)),o 2 (.mv (.t 5))] [2]) .ret)),[.t 2]⟩
theorem cmp_isNaN_int_ok : cFn Tryz.prog (kps [[0],[2]]) [] 151 = some cmp_isNaN_int_c := by kernel_rfl
abbrev cmp_Compare_int : Nat := 128
def cmp_Compare_int_c : MFn := ⟨20,(.seq (r [o 4 (.mv (i 0))] [0,1]) (.seq (r [o 7 (.mv (.t 0)),o 8 (.call 151 [(.t 7)]),o 5 (.mv (.t 8))] [0,1,5]) (.seq (r [o 9 (.mv (.t 1)),o 10 (.call 151 [(.t 9)]),o 6 (.mv (.t 10))] [0,1,5,6]) (.seq (.seq (r [o 11 (.mv (.t 5))] [0,1,6,11]) (.cond (.t 11) (.seq (.seq (r [o 12 (.mv (.t 6))] [12]) (.cond (.t 12) (.seq (r [o 4 (.mv (i 0))] [4]) .ret) .skip)) (.seq (r [o 4 (.mv (i (-1)))] [4]) .ret)) .skip)) (.seq (.seq (r [o 13 (.mv (.t 6))] [0,1,13]) (.cond (.t 13) (.seq (r [o 4 (.mv (i 1))] [4]) .ret) .skip)) (.seq (.seq (r [o 14 (.mv (.t 0)),o 15 (.mv (.t 1)),o 16 (.bin .lss (.t 14) (.t 15))] [0,1,16]) (.cond (.t 16) (.seq (r [o 4 (.mv (i (-1)))] [4]) .ret) .skip)) (.seq (.seq (r [o 17 (.mv (.t 0)),o 18 (.mv (.t 1)),o 19 (.bin .gtr (.t 17) (.t 18))] [19]) (.cond (.t 19) (.seq (r [o 4 (.mv (i 1))] [4]) .ret) .skip)) (.seq (r [o 4 (.mv (i 0))] [4]) .ret)))))))),[.t 4]⟩
theorem cmp_Compare_int_ok : cFn Tryz.prog (kps [[0,1],[0,1,5],[0,1,5,6],[0,1,6,11],[12],[4],[4],[0,1,13],[4],[0,1,16],[4],[19],[4],[4]]) [] 128 = some cmp_Compare_int_c := by kernel_rfl
abbrev value_Compare : Nat := 93
def value_Compare_c : MFn := ⟨26,(.seq (r [o 2 (.box (.t 0)),o 3 (.box (.t 1)),o 4 (.mv (i 0))] [2,3]) (.seq (r [o 6 (.fA 0 (.t 2)),o 7 (.ld none (.t 6)),o 8 (.fA 0 (.t 3)),o 9 (.ld none (.t 8)),o 10 (.call 128 [(.t 7),(.t 9)]),o 5 (.mv (.t 10))] [2,3,5]) (.seq (.seq (r [o 11 (.mv (.t 5)),o 12 (.bin .eql (.t 11) (i 0))] [2,3,5,12]) (.cond (.t 12) (r [o 13 (.fA 1 (.t 2)),o 14 (.ld none (.t 13)),o 15 (.fA 1 (.t 3)),o 16 (.ld none (.t 15)),o 17 (.call 128 [(.t 14),(.t 16)]),o 5 (.mv (.t 17))] [2,3,5]) .skip)) (.seq (.seq (r [o 18 (.mv (.t 5)),o 19 (.bin .eql (.t 18) (i 0))] [2,3,5,19]) (.cond (.t 19) (r [o 20 (.fA 2 (.t 2)),o 21 (.ld none (.t 20)),o 22 (.fA 2 (.t 3)),o 23 (.ld none (.t 22)),o 24 (.call 129 [(.t 21),(.t 23),(.c (.clo 93 []))]),o 5 (.mv (.t 24))] [5]) .skip)) (.seq (r [o 25 (.mv (.t 5)),o 4 (.mv (.t 25))] [4]) .ret))))),[.t 4]⟩
theorem value_Compare_ok : cFn Tryz.prog (kps [[2,3],[2,3,5],[2,3,5,12],[2,3,5],[2,3,5,19],[5],[4]]) [] 93 = some value_Compare_c := by kernel_rfl
abbrev slices_CompareFunc_Value_Value_Value_Value : Nat := 129
def slices_CompareFunc_Value_Value_Value_Value_c : MFn := ⟨39,(.seq (r [o 6 (.mv (i 0))] [0,1,2]) (.seq (.seq (r [o 11 (.mv (.t 0)),o 12 (.lenS (.t 11)),o 13 (.mv (i 0))] [0,1,2,11,12,13]) (.block 0 (.loop (.seq (r [o 14 (.bin .lss (.t 13) (.t 12))] [0,1,2,11,12,13,14]) (.seq (.cond (.t 14) .skip (.exit 0)) (.seq (.block 1 (.seq (r [o 15 (.mv (.t 13)),o 16 (.ixA 3 (.t 11) (.t 13)),o 17 (.ld (some 3) (.t 16)),o 8 (.alloc zV),o 7 (.mv (.t 15)),z (.st 3 (.t 8) (.t 17))] [0,1,2,7,8,11,12,13]) (.seq (.seq (r [o 18 (.mv (.t 7)),o 19 (.mv (.t 1)),o 20 (.lenS (.t 19)),o 21 (.bin .geq (.t 18) (.t 20))] [0,1,2,7,8,11,12,13,21]) (.cond (.t 21) (.seq (r [o 6 (.mv (i 1))] [6]) .ret) .skip)) (.seq (r [o 22 (.mv (.t 1)),o 23 (.mv (.t 7)),o 24 (.ixA 3 (.t 22) (.t 23)),o 25 (.ld (some 3) (.t 24)),o 9 (.alloc zV),z (.st 3 (.t 9) (.t 25))] [0,1,2,8,9,11,12,13]) (.seq (r [o 26 (.mv (.t 2)),o 27 (.ld (some 3) (.t 8)),o 28 (.ld (some 3) (.t 9)),o 29 (.callV (.t 26) [(.t 27),(.t 28)]),o 10 (.mv (.t 29))] [0,1,2,10,11,12,13]) (.seq (r [o 30 (.mv (.t 10)),o 31 (.bin .neq (.t 30) (i 0))] [0,1,2,10,11,12,13,31]) (.cond (.t 31) (.seq (r [o 32 (.mv (.t 10)),o 6 (.mv (.t 32))] [6]) .ret) .skip))))))) (r [o 33 (.bin .add (.t 13) (i 1)),o 13 (.mv (.t 33))] [0,1,2,11,12,13]))))))) (.seq (.seq (r [o 34 (.mv (.t 0)),o 35 (.lenS (.t 34)),o 36 (.mv (.t 1)),o 37 (.lenS (.t 36)),o 38 (.bin .lss (.t 35) (.t 37))] [38]) (.cond (.t 38) (.seq (r [o 6 (.mv (i (-1)))] [6]) .ret) .skip)) (.seq (r [o 6 (.mv (i 0))] [6]) .ret)))),[.t 6]⟩
theorem slices_CompareFunc_Value_Value_Value_Value_ok : cFn Tryz.prog (kps [[0,1,2],[0,1,2,11,12,13],[0,1,2,11,12,13,14],[0,1,2,7,8,11,12,13],[0,1,2,7,8,11,12,13,21],[6],[0,1,2,8,9,11,12,13],[0,1,2,10,11,12,13],[0,1,2,10,11,12,13,31],[6],[0,1,2,11,12,13],[38],[6],[6]]) [] 129 = some slices_CompareFunc_Value_Value_Value_Value_c := by kernel_rfl
abbrev ref03_order : Nat := 118
def ref03_order_c : MFn := ⟨13,(.seq (r [o 4 (.mv (i 0))] [0,1]) (.seq (.block 0 (.seq (r [o 6 (.mv (.t 0)),o 7 (.mv (.t 1)),o 8 (.bin .lss (.t 6) (.t 7)),o 5 (.mv (.t 8))] [0,1,5]) (.cond (.t 5) (.seq (r [o 4 (.mv (i (-1)))] [4]) .ret) (.seq (r [o 10 (.mv (.t 0)),o 11 (.mv (.t 1)),o 12 (.bin .gtr (.t 10) (.t 11)),o 9 (.mv (.t 12))] [9]) (.cond (.t 9) (.seq (r [o 4 (.mv (i 1))] [4]) .ret) .skip))))) (.seq (r [o 4 (.mv (i 0))] [4]) .ret))),[.t 4]⟩
theorem ref03_order_ok : cFn Tryz.prog (kps [[0,1],[0,1,5],[4],[9],[4],[4]]) [] 118 = some ref03_order_c := by kernel_rfl
abbrev ref03_Compare : Nat := 84
def ref03_Compare_c : MFn := ⟨58,(.seq (r [o 2 (.box (.t 0)),o 3 (.box (.t 1)),o 4 (.mv (i 0))] [2,3]) (.seq (r [o 7 (.fA 0 (.t 2)),o 8 (.ld none (.t 7)),o 9 (.fA 0 (.t 3)),o 10 (.ld none (.t 9)),o 11 (.call 118 [(.t 8),(.t 10)]),o 5 (.mv (.t 11))] [2,3,5]) (.seq (.seq (r [o 12 (.mv (.t 5)),o 13 (.bin .eql (.t 12) (i 0))] [2,3,5,13]) (.cond (.t 13) (r [o 14 (.fA 1 (.t 2)),o 15 (.ld none (.t 14)),o 16 (.fA 1 (.t 3)),o 17 (.ld none (.t 16)),o 18 (.call 118 [(.t 15),(.t 17)]),o 5 (.mv (.t 18))] [2,3,5]) .skip)) (.seq (.seq (r [o 6 (.mv (i 0))] [2,3,5,6]) (.block 0 (.loop (.seq (.seq (r [o 19 (.mv (.t 5)),o 20 (.bin .eql (.t 19) (i 0)),o 21 (.mv (.t 20)),y 22 21 (.mv (.t 6)),y 23 21 (.fA 2 (.t 2)),y 24 21 (.ld none (.t 23)),y 25 21 (.lenS (.t 24)),y 26 21 (.bin .lss (.t 22) (.t 25)),o 27 (.pick (.t 21) (.t 26) (.c (.bool false))),o 28 (.mv (.t 27)),y 29 28 (.mv (.t 6)),y 30 28 (.fA 2 (.t 3)),y 31 28 (.ld none (.t 30)),y 32 28 (.lenS (.t 31)),y 33 28 (.bin .lss (.t 29) (.t 32)),o 34 (.pick (.t 28) (.t 33) (.c (.bool false)))] [2,3,5,6,34]) (.cond (.t 34) .skip (.exit 0))) (.seq (.block 1 (r [o 37 (.fA 2 (.t 2)),o 38 (.ld none (.t 37)),o 39 (.mv (.t 6)),o 40 (.ixA 3 (.t 38) (.t 39)),o 41 (.ld (some 3) (.t 40)),o 42 (.fA 2 (.t 3)),o 43 (.ld none (.t 42)),o 44 (.mv (.t 6)),o 45 (.ixA 3 (.t 43) (.t 44)),o 46 (.ld (some 3) (.t 45)),o 47 (.callF 84 [(.t 41),(.t 46)]),o 5 (.mv (.t 47))] [2,3,5,6])) (r [o 35 (.mv (.t 6)),o 36 (.bin .add (.t 35) (i 1)),o 6 (.mv (.t 36))] [2,3,5,6])))))) (.seq (.seq (r [o 48 (.mv (.t 5)),o 49 (.bin .eql (.t 48) (i 0))] [2,3,5,49]) (.cond (.t 49) (r [o 50 (.fA 2 (.t 2)),o 51 (.ld none (.t 50)),o 52 (.lenS (.t 51)),o 53 (.fA 2 (.t 3)),o 54 (.ld none (.t 53)),o 55 (.lenS (.t 54)),o 56 (.call 118 [(.t 52),(.t 55)]),o 5 (.mv (.t 56))] [5]) .skip)) (.seq (r [o 57 (.mv (.t 5)),o 4 (.mv (.t 57))] [4]) .ret)))))),[.t 4]⟩
theorem ref03_Compare_ok : cFn Tryz.prog (kps [[2,3],[2,3,5],[2,3,5,13],[2,3,5],[2,3,5,6],[2,3,5,6,34],[2,3,5,6],[2,3,5,6],[2,3,5,49],[5],[4]]) [] 84 = some ref03_Compare_c := by kernel_rfl
abbrev ref03_Same : Nat := 70
def ref03_Same_c : MFn := ⟨9,(.seq (r [o 2 (.box (.t 0)),o 3 (.box (.t 1)),o 4 (.mv (.c (.bool false)))] [2,3]) (.seq (r [o 5 (.ld (some 3) (.t 2)),o 6 (.ld (some 3) (.t 3)),o 7 (.call 84 [(.t 5),(.t 6)]),o 8 (.bin .eql (.t 7) (i 0)),o 4 (.mv (.t 8))] [4]) .ret)),[.t 4]⟩
theorem ref03_Same_ok : cFn Tryz.prog (kps [[2,3],[4]]) [] 70 = some ref03_Same_c := by kernel_rfl
abbrev value_closed : Nat := 147
def value_closed_c : MFn := ⟨29,(.seq (r [o 1 (.box (.t 0)),o 2 (.alloc [.int .i64 0,.nils])] [1,2]) (.seq (.seq (r [o 6 (.fA 0 (.t 1)),o 7 (.ld none (.t 6)),o 8 (.bin .eql (.t 7) (i 0))] [1,2,8]) (.cond (.t 8) (.seq (r [o 9 (.build [.int .i64 0,.nils] [(0,1,(i 1))]),z (.st 2 (.t 2) (.t 9))] [2]) .ret) .skip)) (.seq (r [o 10 (.fA 0 (.t 1)),o 11 (.ld none (.t 10)),o 12 (.build [.int .i64 0,.nils] [(0,1,(.t 11))]),o 3 (.alloc [.int .i64 0,.nils]),z (.st 2 (.t 3) (.t 12))] [1,2,3]) (.seq (.seq (r [o 13 (.fA 1 (.t 1)),o 14 (.ld none (.t 13)),o 15 (.lenS (.t 14)),o 16 (.mv (i 0))] [2,3,14,15,16]) (.block 0 (.loop (.seq (r [o 17 (.bin .lss (.t 16) (.t 15))] [2,3,14,15,16,17]) (.seq (.cond (.t 17) .skip (.exit 0)) (.seq (.block 1 (.seq (r [o 18 (.ixA 2 (.t 14) (.t 16)),o 19 (.ld (some 2) (.t 18)),o 5 (.alloc [.int .i64 0,.nils]),z (.st 2 (.t 5) (.t 19))] [2,3,5,14,15,16]) (r [o 20 (.fA 1 (.t 3)),o 21 (.ld none (.t 20)),o 22 (.ld (some 2) (.t 5)),o 23 (.callF 147 [(.t 22)]),o 24 (.buildSl 2 1 [.int .i64 0,.nils] [(0,(.t 23))]),o 25 (.app 2 32 (.t 21) (.t 24)),o 26 (.fA 1 (.t 3)),z (.st 1 (.t 26) (.t 25))] [2,3,14,15,16]))) (r [o 27 (.bin .add (.t 16) (i 1)),o 16 (.mv (.t 27))] [2,3,14,15,16]))))))) (.seq (r [o 28 (.ld (some 2) (.t 3)),z (.st 2 (.t 2) (.t 28))] [2]) .ret))))),[.cell 2 (some 2)]⟩
theorem value_closed_ok : cFn Tryz.prog (kps [[1,2],[1,2,8],[2],[1,2,3],[2,3,14,15,16],[2,3,14,15,16,17],[2,3,5,14,15,16],[2,3,14,15,16],[2,3,14,15,16],[2]]) [] 147 = some value_closed_c := by kernel_rfl
abbrev slices_IndexFunc_Type_Type : Nat := 182
def slices_IndexFunc_Type_Type_c : MFn := ⟨19,(.seq (r [o 4 (.mv (i 0))] [0,1]) (.seq (.seq (r [o 6 (.mv (.t 0)),o 7 (.lenS (.t 6)),o 8 (.mv (i 0))] [0,1,7,8]) (.block 0 (.loop (.seq (r [o 9 (.bin .lss (.t 8) (.t 7))] [0,1,7,8,9]) (.seq (.cond (.t 9) .skip (.exit 0)) (.seq (.block 1 (.seq (r [o 10 (.mv (.t 8)),o 5 (.mv (.t 10))] [0,1,5,7,8]) (.seq (r [o 11 (.mv (.t 1)),o 12 (.mv (.t 0)),o 13 (.mv (.t 5)),o 14 (.ixA 2 (.t 12) (.t 13)),o 15 (.ld (some 2) (.t 14)),o 16 (.callV (.t 11) [(.t 15)])] [0,1,5,7,8,16]) (.cond (.t 16) (.seq (r [o 17 (.mv (.t 5)),o 4 (.mv (.t 17))] [4]) .ret) .skip)))) (r [o 18 (.bin .add (.t 8) (i 1)),o 8 (.mv (.t 18))] [0,1,7,8]))))))) (.seq (r [o 4 (.mv (i (-1)))] [4]) .ret))),[.t 4]⟩
theorem slices_IndexFunc_Type_Type_ok : cFn Tryz.prog (kps [[0,1],[0,1,7,8],[0,1,7,8,9],[0,1,5,7,8],[0,1,5,7,8,16],[4],[0,1,7,8],[4]]) [] 182 = some slices_IndexFunc_Type_Type_c := by kernel_rfl
abbrev slices_ContainsFunc_Type_Type : Nat := 177
def slices_ContainsFunc_Type_Type_c : MFn := ⟨9,(.seq (r [o 4 (.mv (.c (.bool false)))] [0,1]) (.seq (r [o 5 (.mv (.t 0)),o 6 (.mv (.t 1)),o 7 (.call 182 [(.t 5),(.t 6)]),o 8 (.bin .geq (.t 7) (i 0)),o 4 (.mv (.t 8))] [4]) .ret)),[.t 4]⟩
theorem slices_ContainsFunc_Type_Type_ok : cFn Tryz.prog (kps [[0,1],[4]]) [] 177 = some slices_ContainsFunc_Type_Type_c := by kernel_rfl
abbrev value_deep : Nat := 167
def value_deep_c : MFn := ⟨39,(.seq (r [o 2 (.box (.t 0)),o 3 (.box (.t 1)),o 4 (.mv (.c (.bool false)))] [2,3]) (.seq (.seq (r [o 5 (.ld none (.t 3)),o 6 (.bin .lss (.t 5) (i 1))] [2,3,6]) (.cond (.t 6) (.seq (r [o 4 (.mv (.c (.bool false)))] [4]) .ret) .skip)) (.seq (.seq (r [o 7 (.fA 0 (.t 2)),o 8 (.ld none (.t 7))] [2,3,8]) (.block 0 (.seq (.seq (r [o 10 (.bin .eql (.t 8) (i 1)),o 9 (.mv (.t 10))] [2,3,8,9]) (.cond (.t 9) .skip (r [o 11 (.bin .eql (.t 8) (i 2)),o 9 (.mv (.t 11))] [2,3,8,9]))) (.cond (.t 9) (.seq (r [o 12 (.fA 1 (.t 2)),o 13 (.ld none (.t 12)),o 14 (.lenS (.t 13)),o 15 (.bin .eql (.t 14) (i 0)),o 4 (.mv (.t 15))] [4]) .ret) (.seq (r [o 17 (.bin .eql (.t 8) (i 3)),o 16 (.mv (.t 17))] [2,3,8,16]) (.cond (.t 16) (.seq (r [o 18 (.fA 1 (.t 2)),o 19 (.ld none (.t 18)),o 20 (.lenS (.t 19)),o 21 (.bin .lss (.t 20) (i 2)),o 22 (.mv (.t 21)),n 23 22 (.fA 1 (.t 2)),n 24 22 (.ld none (.t 23)),n 25 22 (.lenS (.t 24)),n 26 22 (.bin .gtr (.t 25) (i 4)),o 27 (.pick (.t 22) (.c (.bool true)) (.t 26))] [2,3,27]) (.cond (.t 27) (.seq (r [o 4 (.mv (.c (.bool false)))] [4]) .ret) .skip)) (.seq (r [o 29 (.bin .eql (.t 8) (i 4)),o 28 (.mv (.t 29))] [2,3,28]) (.cond (.t 28) (.seq (r [o 30 (.fA 1 (.t 2)),o 31 (.ld none (.t 30)),o 32 (.lenS (.t 31)),o 33 (.bin .neq (.t 32) (i 1))] [2,3,33]) (.cond (.t 33) (.seq (r [o 4 (.mv (.c (.bool false)))] [4]) .ret) .skip)) (.seq (r [o 4 (.mv (.c (.bool false)))] [4]) .ret))))))))) (.seq (r [o 34 (.fA 1 (.t 2)),o 35 (.ld none (.t 34)),o 36 (.mkF 178 [(.t 3)]),o 37 (.call 177 [(.t 35),(.t 36)]),o 38 (.un .not (.t 37)),o 4 (.mv (.t 38))] [4]) .ret)))),[.t 4]⟩
theorem value_deep_ok : cFn Tryz.prog (kps [[2,3],[2,3,6],[4],[2,3,8],[4],[2,3,8,9],[2,3,8,9],[4],[2,3,8,16],[2,3,27],[4],[2,3,28],[2,3,33],[4],[4]]) [] 167 = some value_deep_c := by kernel_rfl
abbrev value_deep_1 : Nat := 178
def value_deep_1_c : MFn := ⟨9,(.seq (r [o 2 (.box (.t 0)),o 3 (.mv (.c (.bool false)))] [1,2]) (.seq (r [o 4 (.ld (some 2) (.t 2)),o 5 (.ld none (.t 1)),o 6 (.bin .sub (.t 5) (i 1)),o 7 (.call 167 [(.t 4),(.t 6)]),o 8 (.un .not (.t 7)),o 3 (.mv (.t 8))] [3]) .ret)),[.t 3]⟩
theorem value_deep_1_ok : cFn Tryz.prog (kps [[1,2],[3]]) [] 178 = some value_deep_1_c := by kernel_rfl
abbrev value_TypeRight : Nat := 146
def value_TypeRight_c : MFn := ⟨5,(.seq (r [o 1 (.box (.t 0)),o 2 (.mv (.c (.bool false)))] [1]) (.seq (r [o 3 (.ld (some 2) (.t 1)),o 4 (.call 167 [(.t 3),(i 40)]),o 2 (.mv (.t 4))] [2]) .ret)),[.t 2]⟩
theorem value_TypeRight_ok : cFn Tryz.prog (kps [[1],[2]]) [] 146 = some value_TypeRight_c := by kernel_rfl
abbrev value_join : Nat := 166
def value_join_c : MFn := ⟨70,(.seq (r [o 2 (.box (.t 0)),o 3 (.box (.t 1)),o 4 (.alloc [.int .i64 0,.nils]),o 5 (.mv (.c (.bool false)))] [2,3,4]) (.seq (.block 0 (.seq (r [o 11 (.fA 0 (.t 2)),o 12 (.ld none (.t 11)),o 13 (.bin .eql (.t 12) (i 0)),o 10 (.mv (.t 13))] [2,3,4,10]) (.cond (.t 10) (.seq (r [o 14 (.ld (some 2) (.t 3)),z (.st 2 (.t 4) (.t 14)),o 5 (.mv (.c (.bool true)))] [4,5]) .ret) (.seq (r [o 16 (.fA 0 (.t 3)),o 17 (.ld none (.t 16)),o 18 (.bin .eql (.t 17) (i 0)),o 15 (.mv (.t 18))] [2,3,4,15]) (.cond (.t 15) (.seq (r [o 19 (.ld (some 2) (.t 2)),z (.st 2 (.t 4) (.t 19)),o 5 (.mv (.c (.bool true)))] [4,5]) .ret) (.seq (r [o 21 (.fA 0 (.t 2)),o 22 (.ld none (.t 21)),o 23 (.fA 0 (.t 3)),o 24 (.ld none (.t 23)),o 25 (.bin .neq (.t 22) (.t 24)),o 26 (.mv (.t 25)),n 27 26 (.fA 1 (.t 2)),n 28 26 (.ld none (.t 27)),n 29 26 (.lenS (.t 28)),n 30 26 (.fA 1 (.t 3)),n 31 26 (.ld none (.t 30)),n 32 26 (.lenS (.t 31)),n 33 26 (.bin .neq (.t 29) (.t 32)),o 34 (.pick (.t 26) (.c (.bool true)) (.t 33)),o 20 (.mv (.t 34))] [2,3,4,20]) (.cond (.t 20) (.seq (r [o 35 (.ld (some 2) (.t 2)),z (.st 2 (.t 4) (.t 35)),o 5 (.mv (.c (.bool false)))] [4,5]) .ret) .skip))))))) (.seq (r [o 36 (.fA 0 (.t 2)),o 37 (.ld none (.t 36)),o 38 (.build [.int .i64 0,.nils] [(0,1,(.t 37))]),o 6 (.alloc [.int .i64 0,.nils]),z (.st 2 (.t 6) (.t 38))] [2,3,4,6]) (.seq (.seq (r [o 39 (.fA 1 (.t 2)),o 40 (.ld none (.t 39)),o 41 (.lenS (.t 40)),o 42 (.mv (i 0))] [2,3,4,6,41,42]) (.block 1 (.loop (.seq (r [o 43 (.bin .lss (.t 42) (.t 41))] [2,3,4,6,41,42,43]) (.seq (.cond (.t 43) .skip (.exit 1)) (.seq (.block 2 (.seq (r [o 44 (.mv (.t 42)),o 7 (.mv (.t 44))] [2,3,4,6,7,41,42]) (.seq (r [o 46 (.fA 1 (.t 2)),o 47 (.ld none (.t 46)),o 48 (.mv (.t 7)),o 49 (.ixA 2 (.t 47) (.t 48)),o 50 (.ld (some 2) (.t 49)),o 51 (.fA 1 (.t 3)),o 52 (.ld none (.t 51)),o 53 (.mv (.t 7)),o 54 (.ixA 2 (.t 52) (.t 53)),o 55 (.ld (some 2) (.t 54)),o 56 (.callF 166 [(.t 50),(.t 55)]),o 45 (.mv (.t 56)),o 57 (.ext (.t 45) 0),o 58 (.ext (.t 45) 1),o 8 (.alloc [.int .i64 0,.nils]),z (.st 2 (.t 8) (.t 57)),o 9 (.mv (.t 58))] [2,3,4,6,8,9,41,42]) (.seq (.seq (r [o 59 (.mv (.t 9)),o 60 (.un .not (.t 59))] [2,3,4,6,8,41,42,60]) (.cond (.t 60) (.seq (r [o 61 (.ld (some 2) (.t 2)),z (.st 2 (.t 4) (.t 61)),o 5 (.mv (.c (.bool false)))] [4,5]) .ret) .skip)) (r [o 62 (.fA 1 (.t 6)),o 63 (.ld none (.t 62)),o 64 (.ld (some 2) (.t 8)),o 65 (.buildSl 2 1 [.int .i64 0,.nils] [(0,(.t 64))]),o 66 (.app 2 32 (.t 63) (.t 65)),o 67 (.fA 1 (.t 6)),z (.st 1 (.t 67) (.t 66))] [2,3,4,6,41,42]))))) (r [o 68 (.bin .add (.t 42) (i 1)),o 42 (.mv (.t 68))] [2,3,4,6,41,42]))))))) (.seq (r [o 69 (.ld (some 2) (.t 6)),z (.st 2 (.t 4) (.t 69)),o 5 (.mv (.c (.bool true)))] [4,5]) .ret))))),[.cell 4 (some 2),.t 5]⟩
theorem value_join_ok : cFn Tryz.prog (kps [[2,3,4],[2,3,4,10],[4,5],[2,3,4,15],[4,5],[2,3,4,20],[4,5],[2,3,4,6],[2,3,4,6,41,42],[2,3,4,6,41,42,43],[2,3,4,6,7,41,42],[2,3,4,6,8,9,41,42],[2,3,4,6,8,41,42,60],[4,5],[2,3,4,6,41,42],[2,3,4,6,41,42],[4,5]]) [] 166 = some value_join_c := by kernel_rfl
abbrev ref03_meet : Nat := 143
def ref03_meet_c : MFn := ⟨67,(.seq (r [o 2 (.box (.t 0)),o 3 (.box (.t 1)),o 4 (.alloc [.int .i64 0,.nils]),o 5 (.mv (.c (.bool false)))] [2,3,4]) (.seq (.seq (r [o 10 (.fA 0 (.t 2)),o 11 (.ld none (.t 10)),o 12 (.bin .eql (.t 11) (i 0))] [2,3,4,12]) (.cond (.t 12) (.seq (r [o 13 (.ld (some 2) (.t 3)),z (.st 2 (.t 4) (.t 13)),o 5 (.mv (.c (.bool true)))] [4,5]) .ret) .skip)) (.seq (.seq (r [o 14 (.fA 0 (.t 3)),o 15 (.ld none (.t 14)),o 16 (.bin .eql (.t 15) (i 0))] [2,3,4,16]) (.cond (.t 16) (.seq (r [o 17 (.ld (some 2) (.t 2)),z (.st 2 (.t 4) (.t 17)),o 5 (.mv (.c (.bool true)))] [4,5]) .ret) .skip)) (.seq (.seq (r [o 18 (.fA 0 (.t 2)),o 19 (.ld none (.t 18)),o 20 (.fA 0 (.t 3)),o 21 (.ld none (.t 20)),o 22 (.bin .neq (.t 19) (.t 21)),o 23 (.mv (.t 22)),n 24 23 (.fA 1 (.t 2)),n 25 23 (.ld none (.t 24)),n 26 23 (.lenS (.t 25)),n 27 23 (.fA 1 (.t 3)),n 28 23 (.ld none (.t 27)),n 29 23 (.lenS (.t 28)),n 30 23 (.bin .neq (.t 26) (.t 29)),o 31 (.pick (.t 23) (.c (.bool true)) (.t 30))] [2,3,4,31]) (.cond (.t 31) (.seq (r [o 32 (.build [.int .i64 0,.nils] []),z (.st 2 (.t 4) (.t 32)),o 5 (.mv (.c (.bool false)))] [4,5]) .ret) .skip)) (.seq (r [o 33 (.fA 0 (.t 2)),o 34 (.ld none (.t 33)),o 35 (.build [.int .i64 0,.nils] [(0,1,(.t 34))]),o 6 (.alloc [.int .i64 0,.nils]),z (.st 2 (.t 6) (.t 35))] [2,3,4,6]) (.seq (.seq (r [o 7 (.mv (i 0))] [2,3,4,6,7]) (.block 0 (.loop (.seq (.seq (r [o 36 (.mv (.t 7)),o 37 (.fA 1 (.t 2)),o 38 (.ld none (.t 37)),o 39 (.lenS (.t 38)),o 40 (.bin .lss (.t 36) (.t 39))] [2,3,4,6,7,40]) (.cond (.t 40) .skip (.exit 0))) (.seq (.block 1 (.seq (r [o 44 (.fA 1 (.t 2)),o 45 (.ld none (.t 44)),o 46 (.mv (.t 7)),o 47 (.ixA 2 (.t 45) (.t 46)),o 48 (.ld (some 2) (.t 47)),o 49 (.fA 1 (.t 3)),o 50 (.ld none (.t 49)),o 51 (.mv (.t 7)),o 52 (.ixA 2 (.t 50) (.t 51)),o 53 (.ld (some 2) (.t 52)),o 54 (.callF 143 [(.t 48),(.t 53)]),o 43 (.mv (.t 54)),o 55 (.ext (.t 43) 0),o 56 (.ext (.t 43) 1),o 8 (.alloc [.int .i64 0,.nils]),z (.st 2 (.t 8) (.t 55)),o 9 (.mv (.t 56))] [2,3,4,6,7,8,9]) (.seq (.seq (r [o 57 (.mv (.t 9)),o 58 (.un .not (.t 57))] [2,3,4,6,7,8,58]) (.cond (.t 58) (.seq (r [o 59 (.build [.int .i64 0,.nils] []),z (.st 2 (.t 4) (.t 59)),o 5 (.mv (.c (.bool false)))] [4,5]) .ret) .skip)) (r [o 60 (.fA 1 (.t 6)),o 61 (.ld none (.t 60)),o 62 (.ld (some 2) (.t 8)),o 63 (.buildSl 2 1 [.int .i64 0,.nils] [(0,(.t 62))]),o 64 (.app 2 32 (.t 61) (.t 63)),o 65 (.fA 1 (.t 6)),z (.st 1 (.t 65) (.t 64))] [2,3,4,6,7])))) (r [o 41 (.mv (.t 7)),o 42 (.bin .add (.t 41) (i 1)),o 7 (.mv (.t 42))] [2,3,4,6,7])))))) (.seq (r [o 66 (.ld (some 2) (.t 6)),z (.st 2 (.t 4) (.t 66)),o 5 (.mv (.c (.bool true)))] [4,5]) .ret))))))),[.cell 4 (some 2),.t 5]⟩
theorem ref03_meet_ok : cFn Tryz.prog (kps [[2,3,4],[2,3,4,12],[4,5],[2,3,4,16],[4,5],[2,3,4,31],[4,5],[2,3,4,6],[2,3,4,6,7],[2,3,4,6,7,40],[2,3,4,6,7],[2,3,4,6,7,8,9],[2,3,4,6,7,8,58],[4,5],[2,3,4,6,7],[4,5]]) [] 143 = some ref03_meet_c := by kernel_rfl
abbrev value_Size : Nat := 148
def value_Size_c : MFn := ⟨22,(.seq (r [o 1 (.box (.t 0)),o 2 (.mv (i 0))] [1]) (.seq (r [o 3 (.mv (i 1))] [1,3]) (.seq (.seq (r [o 6 (.fA 2 (.t 1)),o 7 (.ld none (.t 6)),o 8 (.lenS (.t 7)),o 9 (.mv (i 0))] [3,7,8,9]) (.block 0 (.loop (.seq (r [o 10 (.bin .lss (.t 9) (.t 8))] [3,7,8,9,10]) (.seq (.cond (.t 10) .skip (.exit 0)) (.seq (.block 1 (.seq (r [o 11 (.ixA 3 (.t 7) (.t 9)),o 12 (.ld (some 3) (.t 11)),o 5 (.alloc zV),z (.st 3 (.t 5) (.t 12))] [3,5,7,8,9]) (.seq (r [o 13 (.mv (.t 3)),o 14 (.ld (some 3) (.t 5)),o 15 (.call 148 [(.t 14)]),o 16 (.bin .add (.t 13) (.t 15)),o 17 (.min2 (.t 16) (i 1001)),o 3 (.mv (.t 17))] [3,7,8,9]) (.seq (r [o 18 (.mv (.t 3)),o 19 (.bin .gtr (.t 18) (i 1000))] [3,7,8,9,19]) (.cond (.t 19) (.exit 0) .skip))))) (r [o 20 (.bin .add (.t 9) (i 1)),o 9 (.mv (.t 20))] [3,7,8,9]))))))) (.seq (r [o 21 (.mv (.t 3)),o 2 (.mv (.t 21))] [2]) .ret)))),[.t 2]⟩
theorem value_Size_ok : cFn Tryz.prog (kps [[1],[1,3],[3,7,8,9],[3,7,8,9,10],[3,5,7,8,9],[3,7,8,9],[3,7,8,9,19],[3,7,8,9],[2]]) [] 148 = some value_Size_c := by kernel_rfl
abbrev ref03_counted : Nat := 141
def ref03_counted_c : MFn := ⟨27,(.seq (r [o 2 (.box (.t 0)),o 4 (.mv (i 0))] [1,2]) (.seq (r [o 6 (.mv (.t 1)),o 7 (.bin .add (.t 6) (i 1)),o 1 (.mv (.t 7))] [1,2]) (.seq (.seq (r [o 5 (.mv (i 0))] [1,2,5]) (.block 0 (.loop (.seq (.seq (r [o 8 (.mv (.t 5)),o 9 (.fA 2 (.t 2)),o 10 (.ld none (.t 9)),o 11 (.lenS (.t 10)),o 12 (.bin .lss (.t 8) (.t 11)),o 13 (.mv (.t 12)),y 14 13 (.mv (.t 1)),y 15 13 (.bin .leq (.t 14) (i 1000)),o 16 (.pick (.t 13) (.t 15) (.c (.bool false)))] [1,2,5,16]) (.cond (.t 16) .skip (.exit 0))) (.seq (.block 1 (r [o 19 (.fA 2 (.t 2)),o 20 (.ld none (.t 19)),o 21 (.mv (.t 5)),o 22 (.ixA 3 (.t 20) (.t 21)),o 23 (.ld (some 3) (.t 22)),o 24 (.mv (.t 1)),o 25 (.call 141 [(.t 23),(.t 24)]),o 1 (.mv (.t 25))] [1,2,5])) (r [o 17 (.mv (.t 5)),o 18 (.bin .add (.t 17) (i 1)),o 5 (.mv (.t 18))] [1,2,5])))))) (.seq (r [o 26 (.mv (.t 1)),o 4 (.mv (.t 26))] [4]) .ret)))),[.t 4]⟩
theorem ref03_counted_ok : cFn Tryz.prog (kps [[1,2],[1,2],[1,2,5],[1,2,5,16],[1,2,5],[1,2,5],[4]]) [] 141 = some ref03_counted_c := by kernel_rfl
abbrev ref03_Size : Nat := 116
def ref03_Size_c : MFn := ⟨5,(.seq (r [o 1 (.box (.t 0)),o 2 (.mv (i 0))] [1]) (.seq (r [o 3 (.ld (some 3) (.t 1)),o 4 (.call 141 [(.t 3),(i 0)]),o 2 (.mv (.t 4))] [2]) .ret)),[.t 2]⟩
theorem ref03_Size_ok : cFn Tryz.prog (kps [[1],[2]]) [] 116 = some ref03_Size_c := by kernel_rfl
end Go.Proofs.YtipbefckimdkkaaGreat.F

namespace Go.Proofs.YtipbefckimdkkaaGreat
open Go Go.Proofs Go.Proofs.YtipbefckimdkkaaGreat.E
set_option linter.unusedSimpArgs false
set_option linter.unusedVariables false
def E.Tr.cells : Tr → List V
 | .mk k n l => [.int .i64 k, .int .i64 n, .dat (l.map fun x => x.cells)]
theorem cells_mk (k n : Int) (l : List Tr) : (Tr.mk k n l).cells = [.int .i64 k, .int .i64 n, .dat (l.map Tr.cells)] := by rw [Tr.cells]
@[simp] theorem cells_length (t : Tr) : t.cells.length = 3 := by cases t; rw [cells_mk]; rfl
@[simp] theorem cells_take (t : Tr) : t.cells.take 3 = t.cells := List.take_of_length_le (by simp)
abbrev tl (l : List Tr) : V := .dat (l.map Tr.cells)
theorem toD_one {σ : Sto} {n : Nat} {v : V} (h : ∀ n, toD σ (n + 1) v = some v) : toD σ (n + 1) v = some v := h n
theorem toD_clo (σ : Sto) (n : Nat) (f : Nat) (l : List V) : toD σ (n + 1) (.clo f l) = (mapO (toD σ n) l).map (.clo f) := (rfl)
theorem toD_cells (σ : Sto) (n : Nat) (t : Tr) : mapO (toD σ (n + 1)) t.cells = some t.cells := by
 cases t; rw [cells_mk]; simp
@[simp] theorem rch_cells (σ : Sto) (n : Nat) (t : Tr) : t.cells.flatMap (rch σ n) = [] := by
  cases t; rw [cells_mk]; simp
theorem cmp_isNaN (x : Int) : CallD Tryz.prog F.cmp_isNaN_int [.int .i64 x] (· = .bool false) := by
 refine callD_by F.cmp_isNaN_int_ok ?_
 unfold F.cmp_isNaN_int_c
 simp
theorem cmp_Compare (x y : Int) : CallD Tryz.prog F.cmp_Compare_int [.int .i64 x, .int .i64 y] (· = .int .i64 (cmpI x y)) := by
 refine callD_by F.cmp_Compare_int_ok ?_
 unfold F.cmp_Compare_int_c
 simp
 refine callK_of (cmp_isNaN x) (by simp) ?_
 simp
 refine callK_of (cmp_isNaN y) (by simp) ?_
 by_cases h : x < y
 ·simp [h, cmpI]
 ·by_cases h2 : y < x
  ·simp [h, h2, cmpI]
  ·simp [h, h2, cmpI]
theorem value_Compare : ∀ {a b : Tr}, a.Ok → b.Ok → CallD Tryz.prog F.value_Compare [.agg a.cells, .agg b.cells] (· = .int .i64 (cmpT a b)) := by
 intro a
 induction a using Tr.ind with
 | h k n l ih =>
   intro b ha hb
   cases b with
   | mk k' n' l' =>
     cases ha with
     | mk hk hn hl hc =>
       cases hb with
       | mk hk' hn' hl' hc' =>
         rw [cmpT_mk]
         have cmpf : CallD Tryz.prog F.slices_CompareFunc_Value_Value_Value_Value [tl l, tl l', .clo F.value_Compare []] (· = .int .i64 (cmpL l l')) := by
          refine callD_by F.slices_CompareFunc_Value_Value_Value_Value_ok ?_
          unfold F.slices_CompareFunc_Value_Value_Value_Value_c
          simp
          refine wm_loop (fun i : Nat => ((((((Sl.empty.set 13 (.int .i64 i)).set 12 (.int .i64 l.length)).set 11 (tl l)).set 2 (.clo F.value_Compare [])).set 1 (tl l')).set 0 (tl l), [])) (fun i => i ≤ l.length ∧ i ≤ l'.length ∧ cmpL l l' = cmpL (l.drop i) (l'.drop i)) (fun i => l.length - i) 0 ⟨by omega, by omega, by simp⟩ ?_ ?_
          ·refine weak_plain ?_ (by repeat (first | exact sin_empty | refine sin_set (by simp) ?_))
           repeat (first | exact sub_empty | refine sub_set (by simp) ?_)
          rintro i ⟨hi, hi', he⟩
          by_cases h1 : i < l.length
          ·by_cases h2 : i < l'.length
           ·have h2' : ¬ l'.length ≤ i := by omega
            have hstep := cmpL_step h1 h2
            simp [h1, h2, h2', setOb, List.filter_cons]
            refine ⟨_, _, ⟨rfl, rfl⟩, callK_of (ih l[i] (List.getElem_mem h1) (hc _ (List.getElem_mem h1)) (hc' _ (List.getElem_mem h2))) (by simp [toD_cells]) ?_⟩
            simp
            by_cases h0 : cmpT l[i] l'[i] = 0
            ·simp [h0, setOb, List.filter_cons]
             rw [wrap64 (by omega) (by omega)]
             refine ⟨i + 1, ⟨by omega, by omega, by rw [he, hstep]; simp [orI, h0]⟩, by dsimp only; omega, ?_⟩
             refine weak_plain ?_ (by repeat (first | exact sin_empty | refine sin_set (by simp) ?_))
             repeat (first | exact sub_empty | refine sub_set (by simp) ?_)
            ·simp [h0, setOb, List.filter_cons]
             rw [he, hstep]; simp [orI, h0]
           ·have h2' : l'.length ≤ i := by omega
            simp [h1, h2, h2', setOb, List.filter_cons]
            rw [he, List.drop_eq_nil_of_le h2', List.drop_eq_getElem_cons h1, cmpL]
          ·have h1' : l.length ≤ i := by omega
           simp [h1]
           by_cases h3 : l.length < l'.length
           ·simp [h3]
            rw [he, List.drop_eq_nil_of_le h1', List.drop_eq_getElem_cons (show i < l'.length by omega), cmpL]
            exact ⟨rfl, fun h => by omega⟩
           ·simp [h3]
            rw [he, List.drop_eq_nil_of_le h1', List.drop_eq_nil_of_le (by omega), cmpL]
            intro _; rfl
         refine callD_by F.value_Compare_ok ?_
         unfold F.value_Compare_c
         simp [cells_mk, setOb, List.filter_cons]
         refine callK_of (cmp_Compare k k') (by simp) ?_
         by_cases h1 : cmpI k k' = 0
         ·simp [h1]
          refine callK_of (cmp_Compare n n') (by simp) ?_
          by_cases h2 : cmpI n n' = 0
          ·simp [h2, orI]
           refine callK_of cmpf (by simp [toD_clo]) ?_
           simp
          ·simp [h2, orI]
         ·simp [h1, orI]
theorem ref03_order (x y : Int) : CallD Tryz.prog F.ref03_order [.int .i64 x, .int .i64 y] (· = .int .i64 (cmpI x y)) := by
 refine callD_by F.ref03_order_ok ?_
 unfold F.ref03_order_c
 by_cases h : x < y
 ·simp [h, cmpI]
 ·by_cases h2 : y < x
  ·simp [h, h2, cmpI]
  ·simp [h, h2, cmpI]
theorem E.weak_two {S1 S : Sl} {σ : Sto} {a b : Ob} (h1 : Sub S1 S) (h2 : look σ 0 = some a) (h3 : look σ 1 = some b) (h4 : SIn (fun x => x == 0 || x == 1) S1) (ha : ∀ r ∈ a.cells, ∀ y ∈ r, y.within (fun x => x == 0 || x == 1) = true) (hb : ∀ r ∈ b.cells, ∀ y ∈ r, y.within (fun x => x == 0 || x == 1) = true) : Weak [] S1 [(0, a), (1, b)] S σ := by
 have this : (fun q => (E.look [(0, a), (1, b)] q).isSome) = fun x => x == 0 || x == 1 := by
  funext q
  match q with
  | 0 => rfl
  | 1 => rfl
  | q + 2 => simp [E.look]
 refine weak_of h1 (fun x hx => ?_) (by simp) (by rw [this]; exact h4) (fun x hx _ => ?_)
 ·simp at hx; rcases hx with rfl | rfl <;> assumption
 ·rw [this]
  simp at hx; rcases hx with rfl | rfl <;> assumption
theorem cells_within {p : Nat → Bool} (t : Tr) : ∀ y ∈ t.cells, y.within p = true := by
 cases t; rw [cells_mk]; intro y hy; simp at hy; rcases hy with rfl | rfl | rfl <;> simp
theorem ref03_Compare : ∀ {a b : Tr}, a.Ok → b.Ok → CallD Tryz.prog F.ref03_Compare [.agg a.cells, .agg b.cells] (· = .int .i64 (cmpT a b)) := by
 intro a
 induction a using Tr.ind with
 | h k n l ih =>
   intro b ha hb
   cases b with
   | mk k' n' l' =>
     cases ha with
     | mk hk hn hl hc =>
       cases hb with
       | mk hk' hn' hl' hc' =>
         rw [cmpT_mk]
         refine callD_by F.ref03_Compare_ok ?_
         refine wm_cut 3 rfl fun R hR => ?_
         have rest : ∀ (c : Int), orI c (cmpL l l') = orI (cmpI k k') (orI (cmpI n n') (cmpL l l')) → ∀ {S : Sl} {σ : Sto}, S 2 = some (.ptr 0 0 0) → S 3 = some (.ptr 1 0 0) → S 5 = some (.int .i64 c) → E.look σ 0 = some ⟨.own, 3, [[.int .i64 k, .int .i64 n, tl l]]⟩ → E.look σ 1 = some ⟨.own, 3, [[.int .i64 k', .int .i64 n', tl l']]⟩ → WpM Tryz.prog [] R S σ (DoneD F.ref03_Compare_c.res (· = .int .i64 (orI (cmpI k k') (orI (cmpI n n') (cmpL l l'))))) := by
          intro c hcc S σ s2 s3 s5 o0 o1
          rw [← hcc, hR]
          unfold F.ref03_Compare_c
          simp [s2, s3, s5]
          refine wm_loop (fun g : Nat × Int => ((((Sl.empty.set 6 (.int .i64 g.1)).set 5 (.int .i64 g.2)).set 3 (.ptr 1 0 0)).set 2 (.ptr 0 0 0), [(0, ⟨.own, 3, [[.int .i64 k, .int .i64 n, tl l]]⟩), (1, ⟨.own, 3, [[.int .i64 k', .int .i64 n', tl l']]⟩)])) (fun g => g.1 ≤ l.length ∧ g.1 ≤ l'.length ∧ orI c (cmpL l l') = orI g.2 (cmpL (l.drop g.1) (l'.drop g.1))) (fun g => l.length - g.1) (0, c) ⟨by dsimp only; omega, by dsimp only; omega, by simp⟩ ?_ ?_
          ·refine E.weak_two ?_ o0 o1 (by repeat (first | exact sin_empty | refine sin_set (by simp) ?_)) ?_ ?_
           ·repeat (first | exact sub_empty | refine sub_set (by simp) ?_)
           ·simp
           ·simp
          rintro ⟨i, c⟩ ⟨hi, hi', he⟩
          dsimp only at hi hi' he
          rw [he]
          by_cases h0 : c = 0
          ·subst h0
           by_cases h1 : i < l.length
           ·by_cases h2 : i < l'.length
            ·have hstep := cmpL_step h1 h2
             simp [h1, h2]
             refine callFK_of (ih l[i] (List.getElem_mem h1) (hc _ (List.getElem_mem h1)) (hc' _ (List.getElem_mem h2))) (by simp [toD_cells]) ?_
             simp
             rw [wrap64 (by omega) (by omega)]
             refine ⟨(i + 1, cmpT l[i] l'[i]), ⟨by dsimp only; omega, by dsimp only; omega, by rw [hstep]; simp [orI]⟩, by dsimp only; omega, ?_⟩
             refine E.weak_two ?_ (by simp) (by simp) (by repeat (first | exact sin_empty | refine sin_set (by simp) ?_)) (by simp) (by simp)
             repeat (first | exact sub_empty | refine sub_set (by simp) ?_)
            ·have h2' : l'.length ≤ i := by omega
             simp [h1, h2, h2']
             refine callK_of (ref03_order l.length l'.length) (by simp) ?_
             rw [List.drop_eq_nil_of_le h2', List.drop_eq_getElem_cons h1, cmpL]
             have : cmpI l.length l'.length = 1 := by unfold cmpI; rw [if_neg (by omega), if_pos (by omega)]
             simp [this, orI]
           ·have h1' : l.length ≤ i := by omega
            simp [h1]
            refine callK_of (ref03_order l.length l'.length) (by simp) ?_
            rw [List.drop_eq_nil_of_le h1']
            by_cases h3 : l.length < l'.length
            ·rw [List.drop_eq_getElem_cons (show i < l'.length by omega), cmpL]
             have : cmpI l.length l'.length = -1 := by unfold cmpI; rw [if_pos (by omega)]
             simp [this, orI]
            ·rw [List.drop_eq_nil_of_le (show l'.length ≤ i by omega), cmpL]
             have : cmpI l.length l'.length = 0 := by unfold cmpI; rw [if_neg (by omega), if_neg (by omega)]
             simp [this, orI]
          ·simp [h0, orI]
         generalize hres : orI (cmpI k k') (orI (cmpI n n') (cmpL l l')) = res at *
         unfold F.ref03_Compare_c
         simp [cells_mk, setOb, List.filter_cons]
         refine callK_of (ref03_order k k') (by simp) ?_
         by_cases h1 : cmpI k k' = 0
         ·simp [h1]
          refine callK_of (ref03_order n n') (by simp) ?_
          simp
          exact rest (cmpI n n') (by rw [← hres]; simp [h1, orI]) (by simp) (by simp) (by simp) (by simp) (by simp)
         ·simp [h1]
          exact rest (cmpI k k') (by rw [← hres]; simp [h1, orI]) (by simp) (by simp) (by simp) (by simp) (by simp)
theorem ref03_Same {a b : Tr} (ha : a.Ok) (hb : b.Ok) : CallD Tryz.prog F.ref03_Same [.agg a.cells, .agg b.cells] (· = .bool (decide (cmpT a b = 0))) := by
 refine callD_by F.ref03_Same_ok ?_
 unfold F.ref03_Same_c
 simp [setOb, List.filter_cons]
 refine callK_of (ref03_Compare ha hb) (by simp [toD_cells]) ?_
 simp
def E.Ty.cells : Ty → List V
 | .mk k l => [.int .i64 k, .dat (l.map fun x => x.cells)]
theorem tcells_mk (k : Int) (l : List Ty) : (Ty.mk k l).cells = [.int .i64 k, .dat (l.map Ty.cells)] := by rw [Ty.cells]
@[simp] theorem tcells_length (t : Ty) : t.cells.length = 2 := by cases t; rw [tcells_mk]; rfl
@[simp] theorem tcells_take (t : Ty) : t.cells.take 2 = t.cells := List.take_of_length_le (by simp)
theorem toD_tcells (σ : Sto) (n : Nat) (t : Ty) : mapO (toD σ (n + 1)) t.cells = some t.cells := by
 cases t; rw [tcells_mk]; simp
theorem tcells_within {p : Nat → Bool} (t : Ty) : ∀ y ∈ t.cells, y.within p = true := by
 cases t; rw [tcells_mk]; intro y hy; simp at hy; rcases hy with rfl | rfl <;> simp
@[simp] theorem rch_tcells (σ : Sto) (n : Nat) (t : Ty) : t.cells.flatMap (rch σ n) = [] := by
  cases t; rw [tcells_mk]; simp
theorem toD_grown {σ : Sto} {o n k es : Nat} {st : St} {l : List (List V)} (h : n ≠ 0 → E.look σ o = some ⟨st, es, l⟩) (hs : st ≠ .dead) (he : es ≠ 0) (hl : l.length = n) (hd : ∀ r ∈ l, mapO (toD σ k) r = some r) : toD σ (k + 1) (grown o n) = some (.dat l) := by
 by_cases h0 : n = 0
 ·subst h0
  have : l = [] := List.length_eq_zero_iff.1 hl
  subst this
  rfl
 ·rw [grown_pos h0]
  show (match getOb σ o with | some x => if 0 + n ≤ x.cells.length ∧ x.es ≠ 0 then (mapO (mapO (toD σ k)) ((x.cells.drop 0).take n)).map V.dat else none | none => none) = _
  simp only [getOb, h h0, hs, if_false]
  rw [if_pos ⟨by omega, he⟩, List.drop_zero, List.take_of_length_le (by omega), mapO_id hd]
  rfl
theorem value_closed : ∀ {t : Ty}, t.Ok → CallD Tryz.prog F.value_closed [.agg t.cells] (· = .agg (closedT t).cells) := by
 intro t
 induction t using Ty.ind with
 | h k l ih =>
   intro ht
   cases ht with
   | mk hl hc =>
     refine callD_by F.value_closed_ok ?_
     unfold F.value_closed_c
     rw [closedT_mk]
     by_cases h0 : k = 0
     ·subst h0
      simp [tcells_mk, setOb, List.filter_cons]
     ·simp [tcells_mk, setOb, List.filter_cons, h0]
      refine wm_loop (fun g : Nat × Nat => (((((Sl.empty.set 16 (.int .i64 g.2)).set 15 (.int .i64 l.length)).set 14 (.dat (l.map Ty.cells))).set 3 (.ptr 2 0 0)).set 2 (.ptr 1 0 0), [(1, ⟨.own, 2, [[.int .i64 0, .nils]]⟩), (2, ⟨.own, 2, [[.int .i64 k, grown g.1 g.2]]⟩)] ++ grownS g.1 2 g.2 ((l.take g.2).map fun x => (closedT x).cells)))
       (fun g => g.2 ≤ l.length ∧ 2 < g.1) (fun g => l.length - g.2) (3, 0) ⟨by simp, by simp⟩ ?_ ?_
      ·refine weak_obs ?_ (by simp [grown_zero, grownS_zero]) (by repeat (first | exact sin_empty | refine sin_set (by simp) ?_)) (by simp [grown_zero, grownS_zero])
       repeat (first | exact sub_empty | refine sub_set (by simp) ?_)
      rintro ⟨o, i⟩ ⟨hi, ho⟩
      dsimp only at hi ho
      by_cases h1 : i < l.length
      ·have e1 : List.take (i + 1) (List.map (fun x => (closedT x).cells) l) = List.take i (List.map (fun x => (closedT x).cells) l) ++ [(closedT l[i]).cells] := by
        rw [List.take_succ_eq_append_getElem (by simpa using h1)]; simp
       have hw : ∀ n, ∀ r ∈ List.take n (List.map (fun x => (closedT x).cells) l), ∀ y ∈ r, ∀ {p : Nat → Bool}, y.within p = true := fun n r hr y hy p => by
        obtain ⟨x, _, rfl⟩ := List.mem_map.1 (List.mem_of_mem_take hr)
        exact tcells_within _ y hy
       have q0 : ¬ o = 0 := by omega
       have q1 : ¬ o = 1 := by omega
       have q2 : ¬ o = 2 := by omega
       have hih := ih l[i] (List.getElem_mem h1) (hc _ (List.getElem_mem h1))
       by_cases hi0 : i = 0
       ·subst hi0
        simp at e1
        simp [h1, grown_zero, grownS_zero, setOb, List.filter_cons]
        refine callFK_of hih (by simp [toD_tcells]) ?_
        simp
        repeat simp (disch := omega) [setOb, List.filter_cons, if_neg, if_pos, wrap64]
        refine ⟨(5, 1), ⟨by dsimp only; omega, by dsimp only; omega⟩, by dsimp only; omega, ?_⟩
        refine weak_obs ?_ ?_ (by repeat (first | exact sin_empty | refine sin_set (by simp) ?_)) ?_
        ·repeat (first | exact sub_empty | refine sub_set (by simp) ?_)
        ·simp [grown_pos, grownS_pos, e1, q0, q1, q2]
        ·simp [grown_pos, grownS_pos]
         exact fun r hr y hy => hw _ r hr y hy
       ·simp (disch := omega) [h1, grown_pos hi0, grownS_pos hi0, setOb, List.filter_cons, Nat.max_eq_right, Nat.max_eq_left, if_neg, if_pos]
        refine callFK_of hih (by simp [toD_tcells]) ?_
        simp
        repeat simp (disch := omega) [setOb, List.filter_cons, Nat.max_eq_right, Nat.max_eq_left, if_neg, if_pos, wrap64]
        refine ⟨(o + 3, i + 1), ⟨by dsimp only; omega, by dsimp only; omega⟩, by dsimp only; omega, ?_⟩
        refine weak_obs ?_ ?_ (by repeat (first | exact sin_empty | refine sin_set (by simp) ?_)) ?_
        ·repeat (first | exact sub_empty | refine sub_set (by simp) ?_)
        ·simp [grown_pos, grownS_pos, e1, q0, q1, q2]
        ·simp [grown_pos, grownS_pos]
         exact fun r hr y hy => hw _ r hr y hy
      ·have hil : i = l.length := by omega
       subst hil
       simp [toD_frz]
       rw [toD_grown (st := .own) (es := 2) (l := l.map fun x => (closedT x).cells) (k := 10) (fun h => ?_) (by simp) (by simp) (by simp) (fun r hr => ?_)]
       ·simp
       ·simp [grownS_pos h]; rw [if_neg (by omega), if_neg (by omega), if_neg (by omega)]
       ·simp at hr
        obtain ⟨x, _, rfl⟩ := hr
        exact toD_tcells _ _ _
def fidx {α : Type} (p : α → Bool) (l : List α) : Int := match l.findIdx? p with | some i => i | none => -1
theorem fidx_nonneg {α : Type} (p : α → Bool) (l : List α) : decide (0 ≤ fidx p l) = l.any p := by
 unfold fidx
 cases h : l.findIdx? p with
 | none =>
   rw [List.findIdx?_eq_none_iff] at h
   have : l.any p = false := by rw [List.any_eq_false]; intro x hx; simp [h x hx]
   rw [this]; simp
 | some i =>
   rw [List.findIdx?_eq_some_iff_getElem] at h
   obtain ⟨hi, hp, _⟩ := h
   have : l.any p = true := by rw [List.any_eq_true]; exact ⟨_, List.getElem_mem hi, hp⟩
   rw [this]; simp
theorem fidx_at {α : Type} {p : α → Bool} {l : List α} {i : Nat} (hi : i < l.length) (h : p l[i] = true) (hb : ∀ j (hj : j < l.length), j < i → p l[j] = false) : fidx p l = i := by
 have : l.findIdx? p = some i := by
  rw [List.findIdx?_eq_some_iff_getElem]
  exact ⟨hi, h, fun j hj => by simp [hb j (by omega) hj]⟩
 unfold fidx; rw [this]
theorem fidx_none {α : Type} {p : α → Bool} {l : List α} (hb : ∀ j (hj : j < l.length), p l[j] = false) : fidx p l = -1 := by
 have : l.findIdx? p = none := by
  rw [List.findIdx?_eq_none_iff]
  intro x hx
  obtain ⟨j, hj, rfl⟩ := List.getElem_of_mem hx
  exact hb j hj
 unfold fidx; rw [this]
section
variable {α : Type} {c : α → List V} {p : α → Bool} {l : List α} {f : Nat} {cap : List V} {σ : Sto}
theorem index_Type (hc2 : ∀ a, (c a).length = 2) (hl : l.length < 9223372036854775808) (hs : Shut σ) (hcap : (V.clo f cap).within (fun q => (E.look σ q).isSome) = true) (h : ∀ a ∈ l, CallX Tryz.prog f (.agg (c a) :: cap) σ (fun v s => v = .bool (p a) ∧ s = σ)) :
 CallX Tryz.prog F.slices_IndexFunc_Type_Type [.dat (l.map c), .clo f cap] σ (fun v s => v = .int .i64 (fidx p l) ∧ s = σ) := by
 refine callX_by F.slices_IndexFunc_Type_Type_ok ?_
 unfold F.slices_IndexFunc_Type_Type_c
 simp
 refine wm_loop (fun g : Nat => ((((Sl.empty.set 8 (.int .i64 g)).set 7 (.int .i64 l.length)).set 1 (.clo f cap)).set 0 (.dat (l.map c)), σ)) (fun g => g ≤ l.length ∧ ∀ j (hj : j < l.length), j < g → p l[j] = false) (fun g => l.length - g) 0 ⟨by omega, fun j hj h => by omega⟩ ?_ ?_
 ·refine weak_keep ?_ (Has.refl _) (fun o ho => key_look ho) ?_ hs
  ·repeat (first | exact sub_empty | refine sub_set (by simp) ?_)
  ·repeat (first | exact sin_empty | exact sin_set hcap (sin_set (by simp) sin_empty) | refine sin_set (by first | exact hcap | simp) ?_)
 rintro i ⟨hi, hb⟩
 by_cases h1 : i < l.length
 ·have ht : List.take 2 (c l[i]) = c l[i] := List.take_of_length_le (by rw [hc2]; omega)
  simp [h1, hc2, ht]
  refine ⟨_, _, ⟨rfl, rfl⟩, callK_X (h _ (List.getElem_mem h1)) ?_⟩
  rintro r s ⟨rfl, rfl⟩
  cases hp : p l[i] with
  | true =>
    simp
    exact doneX_same (by simp) (by simp; rfl) (by simp [fidx_at h1 hp hb]) (Has.refl _) hs (by simp)
  | false =>
    simp
    rw [wrap64 (by omega) (by omega)]
    refine ⟨i + 1, ⟨by omega, fun j hj hji => ?_⟩, by dsimp only; omega, ?_⟩
    ·by_cases e : j = i
     ·subst e; exact hp
     ·exact hb j hj (by omega)
    ·refine weak_keep ?_ (Has.refl _) (fun o ho => key_look ho) ?_ hs
     ·repeat (first | exact sub_empty | refine sub_set (by simp) ?_)
     ·repeat (first | exact sin_empty | refine sin_set (by first | exact hcap | simp) ?_)
 ·simp [h1]
  exact doneX_same (by simp) (by simp; rfl) (by simp [fidx_none (fun j hj => hb j hj (by omega))]) (Has.refl _) hs (by simp)
theorem contains_Type (hc2 : ∀ a, (c a).length = 2) (hl : l.length < 9223372036854775808) (hs : Shut σ) (hcap : (V.clo f cap).within (fun q => (E.look σ q).isSome) = true) (h : ∀ a ∈ l, CallX Tryz.prog f (.agg (c a) :: cap) σ (fun v s => v = .bool (p a) ∧ s = σ)) :
 CallX Tryz.prog F.slices_ContainsFunc_Type_Type [.dat (l.map c), .clo f cap] σ (fun v s => v = .bool (l.any p) ∧ s = σ) := by
 refine callX_by F.slices_ContainsFunc_Type_Type_ok ?_
 unfold F.slices_ContainsFunc_Type_Type_c
 simp
 refine callK_X (index_Type hc2 hl hs hcap h) ?_
 rintro r s ⟨rfl, rfl⟩
 simp
 exact doneX_same (by simp) (by simp; rfl) (by simp [fidx_nonneg]) (Has.refl _) hs (by simp)
end
theorem not_all {α : Type} (p : α → Bool) (l : List α) : (!l.any fun x => !p x) = l.all p := by
 induction l with
 | nil => rfl
 | cons a l ih => simp only [List.any_cons, List.all_cons, Bool.not_or, Bool.not_not, ih]
theorem value_deep : ∀ {t : Ty}, t.Ok → ∀ {left : Int}, 0 ≤ left → left ≤ 1000 → CallD Tryz.prog F.value_deep [.agg t.cells, .int .i64 left] (· = .bool (deepT t left)) := by
 intro t
 induction t using Ty.ind with
 | h k l ih =>
   intro ht left hl0 hl1
   cases ht with
   | mk hl hc =>
   refine callD_by F.value_deep_ok ?_
   unfold F.value_deep_c
   rw [deepT_mk]
   by_cases h0 : left < 1
   ·have : ¬ 1 ≤ left := by omega
    simp [tcells_mk, setOb, List.filter_cons, h0, this]
   have h0' : 1 ≤ left := by omega
   have kids : ∀ {σ : Sto} {o : Nat} {x : Ty}, x ∈ l → E.look σ o = some ⟨.own, 1, [[.int .i64 left]]⟩ → Shut σ → CallX Tryz.prog F.value_deep_1 [.agg x.cells, .ptr o 0 0] σ (fun v s => v = .bool (!deepT x (left - 1)) ∧ s = σ) := by
    intro σ o x hx ho hs
    have hh := Has.new (Has.refl σ) ⟨.own, 2, [x.cells]⟩
    have ho' := hh _ _ ho
    rw [look_setOb] at ho'
    refine callX_by F.value_deep_1_ok ?_
    unfold F.value_deep_1_c
    simp
    simp [ho']
    rw [wrap64 (by omega) (by omega)]
    refine callK_of (ih x hx (hc x hx) (left := left - 1) (by omega) (by omega)) (by simp [toD_tcells]) ?_
    simp
    exact doneX_same (by simp) (by simp; rfl) (by simp) hh hs (by simp)
   by_cases h1 : k = 1 ∨ k = 2
   ·rcases h1 with rfl | rfl <;> simp [tcells_mk, setOb, List.filter_cons, h0, h0'] <;> cases l <;> simp
   have h1a : ¬ k = 1 := fun h => h1 (.inl h)
   have h1b : ¬ k = 2 := fun h => h1 (.inr h)
   have fin : ∀ {σ : Sto}, Shut σ → E.look σ 1 = some ⟨.own, 1, [[.int .i64 left]]⟩ → CallX Tryz.prog F.slices_ContainsFunc_Type_Type [.dat (l.map Ty.cells), .clo F.value_deep_1 [.ptr 1 0 0]] σ (fun v s => v = .bool (l.any fun x => !deepT x (left - 1)) ∧ s = σ) := by
    intro σ hs ho
    exact contains_Type (c := Ty.cells) (p := fun x => !deepT x (left - 1)) (by simp) (by omega) hs (by simp [V.within, ho]) (fun a ha => kids ha ho hs)
   by_cases h3 : k = 3
   ·subst h3
    by_cases h4 : 2 ≤ l.length ∧ l.length ≤ 4
    ·have h5 : ¬ ((l.length : Int) < 2) := by omega
     have h6 : ¬ ((4 : Int) < l.length) := by omega
     simp [tcells_mk, setOb, List.filter_cons, h0, h0', h5, h6, h4.1, h4.2]
     refine callK_X (fin (shut_of (by simp)) (by simp)) ?_
     rintro r s ⟨rfl, rfl⟩
     simp [not_all]
    ·by_cases h5 : (l.length : Int) < 2
     ·have h6 : ¬ 2 ≤ l.length := by omega
      simp [tcells_mk, setOb, List.filter_cons, h0, h0', h5, h6]
     ·have h6 : (4 : Int) < l.length := by omega
      have h7 : ¬ l.length ≤ 4 := by omega
      simp [tcells_mk, setOb, List.filter_cons, h0, h0', h5, h6, h7]
   ·by_cases h4 : k = 4
    ·subst h4
     by_cases h5 : l.length = 1
     ·simp [tcells_mk, setOb, List.filter_cons, h0, h0', h5]
      refine callK_X (fin (shut_of (by simp)) (by simp)) ?_
      rintro r s ⟨rfl, rfl⟩
      simp [not_all]
     ·have h6 : ¬ (l.length : Int) = 1 := by omega
      simp [tcells_mk, setOb, List.filter_cons, h0, h0', h5, h6]
    ·simp [tcells_mk, setOb, List.filter_cons, h0, h0', h1a, h1b, h3, h4]
theorem value_TypeRight {t : Ty} (ht : t.Ok) : CallD Tryz.prog F.value_TypeRight [.agg t.cells] (· = .bool (deepT t 40)) := by
 refine callD_by F.value_TypeRight_ok ?_
 unfold F.value_TypeRight_c
 simp [setOb, List.filter_cons]
 refine callK_of (value_deep ht (left := 40) (by omega) (by omega)) (by simp [toD_tcells]) ?_
 simp
theorem joinT_mk (k k' : Int) (l l' : List Ty) : joinT (.mk k l) (.mk k' l') = if k = 0 then some (.mk k' l') else if k' = 0 then some (.mk k l) else if k ≠ k' ∨ l.length ≠ l'.length then none else (joinL l l').map (.mk k) := by rw [joinT]
theorem joinL_step {l m : List Ty} {i : Nat} (hi : i < l.length) (hm : i < m.length) : joinL (l.drop i) (m.drop i) = match joinT l[i] m[i], joinL (l.drop (i + 1)) (m.drop (i + 1)) with | some x, some r => some (x :: r) | _, _ => none := by
 rw [List.drop_eq_getElem_cons hi, List.drop_eq_getElem_cons hm, joinL]
 rfl
theorem joinL_end {l m : List Ty} {i : Nat} (hi : l.length ≤ i) : joinL (l.drop i) (m.drop i) = some [] := by
 rw [List.drop_eq_nil_of_le hi, joinL]; simp
def joinV (a b : Ty) : V := match joinT a b with
 | some t => .tup [.agg t.cells, .bool true]
 | none => .tup [.agg a.cells, .bool false]
set_option maxHeartbeats 2000000 in
theorem value_join : ∀ {a b : Ty}, a.Ok → b.Ok → CallD Tryz.prog F.value_join [.agg a.cells, .agg b.cells] (· = joinV a b) := by
 intro a
 induction a using Ty.ind with
 | h k l ih =>
   intro b ha hb
   cases b with
   | mk k' l' =>
   cases ha with
   | mk hl hc =>
   cases hb with
   | mk hl' hc' =>
   refine callD_by F.value_join_ok ?_
   unfold F.value_join_c joinV
   rw [joinT_mk]
   by_cases h0 : k = 0
   ·subst h0
    simp [tcells_mk, setOb, List.filter_cons]
   by_cases h0' : k' = 0
   ·subst h0'
    simp [tcells_mk, setOb, List.filter_cons, h0]
   by_cases hk : k = k' ∧ l.length = l'.length
   ·obtain ⟨rfl, hlen⟩ := hk
    have hlen' : ((l.length : Int) = l'.length) := by omega
    simp [tcells_mk, setOb, List.filter_cons, h0, hlen, hlen']
    refine wm_loop (fun g : Nat × List Ty => ((((((Sl.empty.set 42 (.int .i64 g.2.length)).set 41 (.int .i64 l.length)).set 6 (.ptr 3 0 0)).set 4 (.ptr 2 0 0)).set 3 (.ptr 1 0 0)).set 2 (.ptr 0 0 0), [(0, ⟨.own, 2, [[.int .i64 k, .dat (l.map Ty.cells)]]⟩), (1, ⟨.own, 2, [[.int .i64 k, .dat (l'.map Ty.cells)]]⟩), (2, ⟨.own, 2, [[.int .i64 0, .nils]]⟩), (3, ⟨.own, 2, [[.int .i64 k, grown g.1 g.2.length]]⟩)] ++ grownS g.1 2 g.2.length (g.2.map fun x => x.cells)))
     (fun g => g.2.length ≤ l.length ∧ 3 < g.1 ∧ joinL l l' = (joinL (l.drop g.2.length) (l'.drop g.2.length)).map (g.2 ++ ·)) (fun g => l.length - g.2.length) (4, []) ⟨by simp, by simp, by simp⟩ ?_ ?_
    ·refine weak_obs ?_ (by simp [grown_zero, grownS_zero]) (by repeat (first | exact sin_empty | refine sin_set (by simp) ?_)) (by simp [grown_zero, grownS_zero])
     repeat (first | exact sub_empty | refine sub_set (by simp [hlen]) ?_)
    rintro ⟨o, xs⟩ ⟨hi, ho, hj⟩
    dsimp only at hi ho hj
    by_cases h1 : xs.length < l.length
    ·have h1' : xs.length < l'.length := by omega
     have hih := ih l[xs.length] (List.getElem_mem h1) (hc _ (List.getElem_mem h1)) (hc' _ (List.getElem_mem h1'))
     rw [joinL_step h1 h1'] at hj
     have q0 : ¬ o = 0 := by omega
     have q1 : ¬ o = 1 := by omega
     have q2 : ¬ o = 2 := by omega
     have q3 : ¬ o = 3 := by omega
     by_cases hi0 : xs.length = 0
     ·have : xs = [] := List.length_eq_zero_iff.1 hi0
      subst this
      simp at h1 h1' hih hj
      simp [h1, h1', grown_zero, grownS_zero, setOb, List.filter_cons]
      unfold joinV at hih
      refine callFK_of hih (by simp [toD_tcells]) ?_
      cases hjt : joinT l[0] l'[0] with
      | none =>
        rw [hjt] at hj
        simp at hj
        simp [setOb, List.filter_cons, hj]
      | some x =>
        rw [hjt] at hj
        simp
        repeat simp (disch := omega) [setOb, List.filter_cons, if_neg, if_pos, wrap64]
        refine ⟨(6, [x]), ⟨by simp; omega, by dsimp only; omega, ?_⟩, by simp; omega, ?_⟩
        ·rw [hj]; simp; cases joinL l.tail l'.tail <;> rfl
        ·refine weak_obs ?_ (by simp [grown_pos, grownS_pos]) (by repeat (first | exact sin_empty | refine sin_set (by simp) ?_)) ?_
         ·repeat (first | exact sub_empty | refine sub_set (by simp) ?_)
         ·simp [grown_pos, grownS_pos]
          exact fun y hy => tcells_within _ y hy
     ·simp (disch := omega) [h1, h1', grown_pos hi0, grownS_pos hi0, setOb, List.filter_cons, Nat.max_eq_right, Nat.max_eq_left, if_neg, if_pos]
      unfold joinV at hih
      refine callFK_of hih (by simp [toD_tcells]) ?_
      cases hjt : joinT l[xs.length] l'[xs.length] with
      | none =>
        rw [hjt] at hj
        simp at hj
        simp (disch := omega) [setOb, List.filter_cons, Nat.max_eq_right, Nat.max_eq_left, if_neg, if_pos, hj]
      | some x =>
        rw [hjt] at hj
        simp
        repeat simp (disch := omega) [setOb, List.filter_cons, Nat.max_eq_right, Nat.max_eq_left, if_neg, if_pos, wrap64]
        refine ⟨(o + 3, xs ++ [x]), ⟨by simp; omega, by dsimp only; omega, ?_⟩, by simp; omega, ?_⟩
        ·rw [hj]; simp; cases joinL (List.drop (xs.length + 1) l) (List.drop (xs.length + 1) l') <;> simp
        ·refine weak_obs ?_ (by simp [grown_pos, grownS_pos, q0, q1, q2, q3]) (by repeat (first | exact sin_empty | refine sin_set (by simp) ?_)) ?_
         ·repeat (first | exact sub_empty | refine sub_set (by simp) ?_)
         ·simp [grown_pos, grownS_pos]
          intro a ha y hy
          rcases ha with ⟨a, _, rfl⟩ | rfl <;> exact tcells_within _ y hy
    ·have hil : xs.length = l.length := by omega
     rw [joinL_end (by omega)] at hj
     simp at hj
     simp [h1, hj, toD_frz]
     rw [toD_grown (st := .own) (es := 2) (l := xs.map fun x => x.cells) (k := 9) (fun h => ?_) (by simp) (by simp) (by simp) (fun r hr => ?_)]
     ·simp [tcells_mk]
     ·simp [grownS_pos h]; rw [if_neg (by omega), if_neg (by omega), if_neg (by omega), if_neg (by omega), if_neg (by omega)]
     ·simp at hr
      obtain ⟨x, _, rfl⟩ := hr
      exact toD_tcells _ _ _
   ·by_cases hkk : k = k'
    ·subst hkk
     have hlen : ¬ (l.length = l'.length) := fun h => hk ⟨rfl, h⟩
     have hlen' : ¬ ((l.length : Int) = l'.length) := by omega
     simp [tcells_mk, setOb, List.filter_cons, h0, hlen, hlen']
    ·simp [tcells_mk, setOb, List.filter_cons, h0, h0', hkk]
def meetV (a b : Ty) : V := match joinT a b with
 | some t => .tup [.agg t.cells, .bool true]
 | none => .tup [.agg [.int .i64 0, .dat []], .bool false]
set_option maxHeartbeats 2000000 in
theorem ref03_meet : ∀ {a b : Ty}, a.Ok → b.Ok → CallD Tryz.prog F.ref03_meet [.agg a.cells, .agg b.cells] (· = meetV a b) := by
 intro a
 induction a using Ty.ind with
 | h k l ih =>
   intro b ha hb
   cases b with
   | mk k' l' =>
   cases ha with
   | mk hl hc =>
   cases hb with
   | mk hl' hc' =>
   refine callD_by F.ref03_meet_ok ?_
   unfold F.ref03_meet_c meetV
   rw [joinT_mk]
   by_cases h0 : k = 0
   ·subst h0
    simp [tcells_mk, setOb, List.filter_cons]
   by_cases h0' : k' = 0
   ·subst h0'
    simp [tcells_mk, setOb, List.filter_cons, h0]
   by_cases hk : k = k' ∧ l.length = l'.length
   ·obtain ⟨rfl, hlen⟩ := hk
    have hlen' : ((l.length : Int) = l'.length) := by omega
    simp [tcells_mk, setOb, List.filter_cons, h0, hlen, hlen']
    refine wm_loop (fun g : Nat × List Ty => (((((Sl.empty.set 7 (.int .i64 g.2.length)).set 6 (.ptr 3 0 0)).set 4 (.ptr 2 0 0)).set 3 (.ptr 1 0 0)).set 2 (.ptr 0 0 0), [(0, ⟨.own, 2, [[.int .i64 k, .dat (l.map Ty.cells)]]⟩), (1, ⟨.own, 2, [[.int .i64 k, .dat (l'.map Ty.cells)]]⟩), (2, ⟨.own, 2, [[.int .i64 0, .nils]]⟩), (3, ⟨.own, 2, [[.int .i64 k, grown g.1 g.2.length]]⟩)] ++ grownS g.1 2 g.2.length (g.2.map fun x => x.cells)))
     (fun g => g.2.length ≤ l.length ∧ 3 < g.1 ∧ joinL l l' = (joinL (l.drop g.2.length) (l'.drop g.2.length)).map (g.2 ++ ·)) (fun g => l.length - g.2.length) (4, []) ⟨by simp, by simp, by simp⟩ ?_ ?_
    ·refine weak_obs ?_ (by simp [grown_zero, grownS_zero]) (by repeat (first | exact sin_empty | refine sin_set (by simp) ?_)) (by simp [grown_zero, grownS_zero])
     repeat (first | exact sub_empty | refine sub_set (by simp [hlen]) ?_)
    rintro ⟨o, xs⟩ ⟨hi, ho, hj⟩
    dsimp only at hi ho hj
    by_cases h1 : xs.length < l.length
    ·have h1' : xs.length < l'.length := by omega
     have hih := ih l[xs.length] (List.getElem_mem h1) (hc _ (List.getElem_mem h1)) (hc' _ (List.getElem_mem h1'))
     rw [joinL_step h1 h1'] at hj
     have q0 : ¬ o = 0 := by omega
     have q1 : ¬ o = 1 := by omega
     have q2 : ¬ o = 2 := by omega
     have q3 : ¬ o = 3 := by omega
     by_cases hi0 : xs.length = 0
     ·have : xs = [] := List.length_eq_zero_iff.1 hi0
      subst this
      simp at h1 h1' hih hj
      simp [h1, h1', grown_zero, grownS_zero, setOb, List.filter_cons]
      unfold meetV at hih
      refine callFK_of hih (by simp [toD_tcells]) ?_
      cases hjt : joinT l[0] l'[0] with
      | none =>
        rw [hjt] at hj
        simp at hj
        simp [setOb, List.filter_cons, hj]
      | some x =>
        rw [hjt] at hj
        simp
        repeat simp (disch := omega) [setOb, List.filter_cons, if_neg, if_pos, wrap64]
        refine ⟨(6, [x]), ⟨by simp; omega, by dsimp only; omega, ?_⟩, by simp; omega, ?_⟩
        ·rw [hj]; simp; cases joinL l.tail l'.tail <;> rfl
        ·refine weak_obs ?_ (by simp [grown_pos, grownS_pos]) (by repeat (first | exact sin_empty | refine sin_set (by simp) ?_)) ?_
         ·repeat (first | exact sub_empty | refine sub_set (by simp) ?_)
         ·simp [grown_pos, grownS_pos]
          exact fun y hy => tcells_within _ y hy
     ·simp (disch := omega) [h1, h1', grown_pos hi0, grownS_pos hi0, setOb, List.filter_cons, Nat.max_eq_right, Nat.max_eq_left, if_neg, if_pos]
      unfold meetV at hih
      refine callFK_of hih (by simp [toD_tcells]) ?_
      cases hjt : joinT l[xs.length] l'[xs.length] with
      | none =>
        rw [hjt] at hj
        simp at hj
        simp (disch := omega) [setOb, List.filter_cons, Nat.max_eq_right, Nat.max_eq_left, if_neg, if_pos, hj]
      | some x =>
        rw [hjt] at hj
        simp
        repeat simp (disch := omega) [setOb, List.filter_cons, Nat.max_eq_right, Nat.max_eq_left, if_neg, if_pos, wrap64]
        refine ⟨(o + 3, xs ++ [x]), ⟨by simp; omega, by dsimp only; omega, ?_⟩, by simp; omega, ?_⟩
        ·rw [hj]; simp; cases joinL (List.drop (xs.length + 1) l) (List.drop (xs.length + 1) l') <;> simp
        ·refine weak_obs ?_ (by simp [grown_pos, grownS_pos, q0, q1, q2, q3]) (by repeat (first | exact sin_empty | refine sin_set (by simp) ?_)) ?_
         ·repeat (first | exact sub_empty | refine sub_set (by simp) ?_)
         ·simp [grown_pos, grownS_pos]
          intro a ha y hy
          rcases ha with ⟨a, _, rfl⟩ | rfl <;> exact tcells_within _ y hy
    ·have hil : xs.length = l.length := by omega
     rw [joinL_end (by omega)] at hj
     simp at hj
     simp [h1, hj, toD_frz]
     rw [toD_grown (st := .own) (es := 2) (l := xs.map fun x => x.cells) (k := 9) (fun h => ?_) (by simp) (by simp) (by simp) (fun r hr => ?_)]
     ·simp [tcells_mk]
     ·simp [grownS_pos h]; rw [if_neg (by omega), if_neg (by omega), if_neg (by omega), if_neg (by omega), if_neg (by omega)]
     ·simp at hr
      obtain ⟨x, _, rfl⟩ := hr
      exact toD_tcells _ _ _
   ·by_cases hkk : k = k'
    ·subst hkk
     have hlen : ¬ (l.length = l'.length) := fun h => hk ⟨rfl, h⟩
     have hlen' : ¬ ((l.length : Int) = l'.length) := by omega
     simp [tcells_mk, setOb, List.filter_cons, h0, hlen, hlen']
    ·simp [tcells_mk, setOb, List.filter_cons, h0, h0', hkk]
theorem value_Size : ∀ {a : Tr}, a.Ok → CallD Tryz.prog F.value_Size [.agg a.cells] (· = .int .i64 (min (cntT a : Int) 1001)) := by
 intro a
 induction a using Tr.ind with
 | h k n l ih =>
   intro ha
   cases ha with
   | mk hk hn hl hc =>
   refine callD_by F.value_Size_ok ?_
   unfold F.value_Size_c
   rw [cntT_mk]
   simp [cells_mk, setOb, List.filter_cons]
   refine wm_loop (fun g : Nat => ((((Sl.empty.set 9 (.int .i64 g)).set 8 (.int .i64 l.length)).set 7 (tl l)).set 3 (.int .i64 (cntL (l.take g) + 1 : Nat)), [])) (fun g => g ≤ l.length ∧ cntL (l.take g) + 1 ≤ 1000) (fun g => l.length - g) 0 ⟨by simp, by simp [cntL]⟩ ?_ ?_
   ·refine weak_plain ?_ (by repeat (first | exact sin_empty | refine sin_set (by simp) ?_))
    repeat (first | exact sub_empty | refine sub_set (by simp [cntL]) ?_)
   rintro i ⟨hi, hn1⟩
   by_cases h1 : i < l.length
   ·have hstep := cntL_take h1
    have hsp := cntL_split l (i + 1)
    have hp := cntT_pos l[i]
    simp [h1, setOb, List.filter_cons]
    refine callK_of (ih l[i] (List.getElem_mem h1) (hc _ (List.getElem_mem h1))) (by simp [toD_cells]) ?_
    simp [setOb, List.filter_cons]
    rw [wrap64 (by omega) (by omega)]
    by_cases h2 : cntL (l.take (i + 1)) + 1 ≤ 1000
    ·have e : (if (1001 : Int) < (cntL (l.take i) : Int) + 1 + min (cntT l[i] : Int) 1001 then (1001 : Int) else (cntL (l.take i) : Int) + 1 + min (cntT l[i] : Int) 1001) = (cntL (l.take (i + 1)) : Int) + 1 := by
      rw [if_neg (by omega)]; omega
     rw [e]
     have h3 : ¬ (1000 : Int) < (cntL (l.take (i + 1)) : Int) + 1 := by omega
     simp [h3]
     rw [wrap64 (by omega) (by omega)]
     refine fun _ => ⟨i + 1, ⟨by omega, by omega⟩, by dsimp only; omega, ?_⟩
     refine weak_plain ?_ (by repeat (first | exact sin_empty | refine sin_set (by simp) ?_))
     repeat (first | exact sub_empty | refine sub_set (by simp) ?_)
    ·have e : (if (1001 : Int) < (cntL (l.take i) : Int) + 1 + min (cntT l[i] : Int) 1001 then (1001 : Int) else (cntL (l.take i) : Int) + 1 + min (cntT l[i] : Int) 1001) = 1001 := by
      split <;> omega
     rw [e]
     simp
     omega
   ·have : l.take i = l := List.take_of_length_le (by omega)
    rw [this] at hn1 ⊢
    simp [h1]
    omega
theorem ref03_counted : ∀ {a : Tr}, a.Ok → ∀ {n0 : Nat}, n0 ≤ 1000 → CallD Tryz.prog F.ref03_counted [.agg a.cells, .int .i64 n0] (· = .int .i64 (min ((n0 : Int) + cntT a) 1001)) := by
 intro a
 induction a using Tr.ind with
 | h k n l ih =>
   intro ha n0 hn0
   cases ha with
   | mk hk hn hl hc =>
   refine callD_by F.ref03_counted_ok ?_
   unfold F.ref03_counted_c
   rw [cntT_mk]
   simp [cells_mk, setOb, List.filter_cons]
   rw [wrap64 (by omega) (by omega)]
   refine wm_loop (fun g : Nat × Nat => (((Sl.empty.set 5 (.int .i64 g.1)).set 2 (.ptr 0 0 0)).set 1 (.int .i64 g.2), [(0, ⟨.own, 3, [[.int .i64 k, .int .i64 n, tl l]]⟩)])) (fun g => g.1 ≤ l.length ∧ g.2 = min (n0 + 1 + cntL (l.take g.1)) 1001) (fun g => l.length - g.1) (0, n0 + 1) ⟨by simp, by simp [cntL]; omega⟩ ?_ ?_
   ·refine weak_obs ?_ (by simp) (by repeat (first | exact sin_empty | refine sin_set (by simp) ?_)) (by simp)
    repeat (first | exact sub_empty | refine sub_set (by simp) ?_)
   rintro ⟨i, m⟩ ⟨hi, hm⟩
   dsimp only at hi hm
   have hsp := cntL_split l i
   by_cases h1 : i < l.length
   ·by_cases h2 : m ≤ 1000
    ·have hstep := cntL_take h1
     have h2' : (m : Int) ≤ 1000 := by omega
     simp [h1, h2, h2']
     refine callK_of (ih l[i] (List.getElem_mem h1) (hc _ (List.getElem_mem h1)) (n0 := m) h2) (by simp [toD_cells]) ?_
     simp
     rw [wrap64 (by omega) (by omega)]
     refine ⟨(i + 1, min (n0 + 1 + cntL (l.take (i + 1))) 1001), ⟨by dsimp only; omega, rfl⟩, by dsimp only; omega, ?_⟩
     refine weak_obs ?_ (by simp) (by repeat (first | exact sin_empty | refine sin_set (by simp) ?_)) (by simp)
     repeat (first | exact sub_empty | refine sub_set (by simp; try omega) ?_)
    ·have h2' : ¬ (m : Int) ≤ 1000 := by omega
     simp [h1, h2, h2']
     omega
   ·have : l.take i = l := List.take_of_length_le (by omega)
    rw [this] at hm
    simp [h1]
    omega
theorem ref03_Size {a : Tr} (ha : a.Ok) : CallD Tryz.prog F.ref03_Size [.agg a.cells] (· = .int .i64 (min (cntT a : Int) 1001)) := by
 refine callD_by F.ref03_Size_ok ?_
 unfold F.ref03_Size_c
 simp [setOb, List.filter_cons]
 refine callK_of (ref03_counted ha (n0 := 0) (by omega)) (by simp [toD_cells]) ?_
 simp
end Go.Proofs.YtipbefckimdkkaaGreat
