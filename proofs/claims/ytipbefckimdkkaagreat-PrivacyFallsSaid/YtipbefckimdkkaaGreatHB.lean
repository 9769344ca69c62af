import Derived.Test.YtipbefckimdkkaaGreatGE
import Derived.Test.YtipbefckimdkkaaGreatGC
import Derived.Test.YtipbefckimdkkaaGreatProg
import Derived.KernelRfl
import Derived.Test.YtipbefckimdkkaaGreatGH
import Derived.Test.YtipbefckimdkkaaGreatHA
import Derived.Test.YtipbefckimdkkaaGreatGL
import Derived.Test.YtipbefckimdkkaaGreatIH
import Derived.Test.YtipbefckimdkkaaGreatGJ
import Derived.Test.YtipbefckimdkkaaGreatGO
import Derived.Test.YtipbefckimdkkaaGreatGM
import Derived.Test.YtipbefckimdkkaaGreatGK
import Derived.Test.YtipbefckimdkkaaGreatIG
import Derived.Test.YtipbefckimdkkaaGreatGI
import Derived.Test.YtipbefckimdkkaaGreatGN
import Derived.Test.YtipbefckimdkkaaGreatGS
namespace Go.Proofs.YtipbefckimdkkaaGreat.F
open Go Go.Proofs Go.Proofs.YtipbefckimdkkaaGreat.E Go.Proofs.YtipbefckimdkkaaGreat.Q
abbrev law36_alive : Nat := 18
def law36_alive_c : MFn := ⟨46,(.seq (r [o 0 (.mv (.c (.bool false)))] []) (.seq (r [o 10 (.call 59 [(i 3)]),o 11 (.call 59 [(i 2)]),o 12 (.call 42 []),o 13 (.call 14 [(.t 10),(.t 11),(.t 12)]),o 9 (.mv (.t 13)),o 14 (.ext (.t 9) 0),o 15 (.ext (.t 9) 1),o 1 (.alloc zR),z (.st 3 (.t 1) (.t 14)),o 2 (.mv (.t 15))] [1,2]) (.seq (r [o 17 (.call 59 [(i 3)]),o 18 (.call 59 [(i 2)]),o 19 (.call 20 [(.t 17),(.t 18)]),o 16 (.mv (.t 19)),o 20 (.ext (.t 16) 0),o 21 (.ext (.t 16) 1),o 3 (.alloc zR),z (.st 3 (.t 3) (.t 20)),o 4 (.mv (.t 21))] [1,2,3,4]) (.seq (r [o 23 (.call 60 [(i 1),(i 4)]),o 22 (.mv (.t 23)),o 24 (.ext (.t 22) 0),o 25 (.ext (.t 22) 1),o 5 (.alloc zR),z (.st 3 (.t 5) (.t 24)),o 6 (.mv (.t 25))] [1,2,3,4,5]) (.seq (r [o 27 (.call 60 [(i 3),(i 2)]),o 26 (.mv (.t 27)),o 28 (.ext (.t 26) 0),o 29 (.ext (.t 26) 1),o 7 (.alloc zR),z (.st 3 (.t 7) (.t 28)),o 8 (.mv (.t 29))] [1,2,3,4,5,7]) (.seq (r [o 30 (.mv (.t 2)),o 31 (.bin .eql (.t 30) (i 0)),o 32 (.mv (.t 31)),y 33 32 (.mv (.t 4)),y 34 32 (.bin .eql (.t 33) (i 0)),o 35 (.pick (.t 32) (.t 34) (.c (.bool false))),o 36 (.mv (.t 35)),y 37 36 (.ld (some 3) (.t 1)),y 38 36 (.ld (some 3) (.t 5)),y 39 36 (.call 24 [(.t 37),(.t 38)]),o 40 (.pick (.t 36) (.t 39) (.c (.bool false))),o 41 (.mv (.t 40)),y 42 41 (.ld (some 3) (.t 3)),y 43 41 (.ld (some 3) (.t 7)),y 44 41 (.call 24 [(.t 42),(.t 43)]),o 45 (.pick (.t 41) (.t 44) (.c (.bool false))),o 0 (.mv (.t 45))] [0]) .ret)))))),[.t 0]⟩
theorem law36_alive_ok : cFn Tryz.prog (kps [[],[1,2],[1,2,3,4],[1,2,3,4,5],[1,2,3,4,5,7],[0]]) [] 18 = some law36_alive_c := by kernel_rfl
abbrev law36_coin : Nat := 59
def law36_coin_c : MFn := ⟨25,(.seq (r [o 2 (.mv (.c .nils))] [0]) (.seq (r [o 8 (.mv (.t 0)),o 9 (.call 60 [(.t 8),(i 4)]),o 7 (.mv (.t 9)),o 10 (.ext (.t 7) 0),o 11 (.ext (.t 7) 1),o 3 (.alloc zR),z (.st 3 (.t 3) (.t 10)),o 4 (.mv (.t 11))] [0,3]) (.seq (r [o 13 (.mv (.t 0)),o 14 (.bin .sub (i 4) (.t 13)),o 15 (.call 60 [(.t 14),(i 4)]),o 12 (.mv (.t 15)),o 16 (.ext (.t 12) 0),o 17 (.ext (.t 12) 1),o 5 (.alloc zR),z (.st 3 (.t 5) (.t 16)),o 6 (.mv (.t 17))] [3,5]) (.seq (r [o 18 (.build zV [(0,1,(i 1))]),o 19 (.ld (some 3) (.t 5)),o 20 (.build zP [(0,3,(.t 18)),(3,3,(.t 19))]),o 21 (.build zV [(0,1,(i 1)),(1,1,(i 1))]),o 22 (.ld (some 3) (.t 3)),o 23 (.build zP [(0,3,(.t 21)),(3,3,(.t 22))]),o 24 (.buildSl 6 2 zP [(0,(.t 20)),(1,(.t 23))]),o 2 (.mv (.t 24))] [2]) .ret)))),[.t 2]⟩
theorem law36_coin_ok : cFn Tryz.prog (kps [[0],[0,3],[3,5],[2]]) [] 59 = some law36_coin_c := by kernel_rfl
abbrev ref02_Make : Nat := 60
def ref02_Make_c : MFn := ⟨28,(.seq (r [o 4 (.alloc zR),o 5 (.mv (i 0))] [0,1,4]) (.seq (r [o 11 (.mv (.t 0)),o 12 (.call 102 [(.t 11)]),o 10 (.mv (.t 12)),o 13 (.ext (.t 10) 0),o 14 (.ext (.t 10) 1),o 6 (.mv (.t 13)),o 7 (.mv (.t 14))] [1,4,6,7]) (.seq (r [o 16 (.mv (.t 1)),o 17 (.call 102 [(.t 16)]),o 15 (.mv (.t 17)),o 18 (.ext (.t 15) 0),o 19 (.ext (.t 15) 1),o 8 (.mv (.t 18)),o 9 (.mv (.t 19))] [4,6,7,8,9]) (.seq (r [o 20 (.mv (.t 7)),o 21 (.mv (.t 9)),o 22 (.binB .neq (.t 20) (.t 21)),o 23 (.mv (.t 6)),o 24 (.mv (.t 8)),o 25 (.call 54 [(.t 22),(.t 23),(.t 24)]),o 26 (.ext (.t 25) 0),o 27 (.ext (.t 25) 1),z (.st 3 (.t 4) (.t 26)),o 5 (.mv (.t 27))] [4,5]) .ret)))),[.cell 4 (some 3),.t 5]⟩
theorem ref02_Make_ok : cFn Tryz.prog (kps [[0,1,4],[1,4,6,7],[4,6,7,8,9],[4,5]]) [] 60 = some ref02_Make_c := by kernel_rfl
abbrev ref02_size : Nat := 102
def ref02_size_c : MFn := ⟨15,(.seq (r [o 2 (.mv (.c .nils)),o 3 (.mv (.c (.bool false)))] [0]) (.seq (.seq (r [o 4 (.mv (.t 0)),o 5 (.bin .lss (.t 4) (i 0))] [0,5]) (.cond (.t 5) (.seq (r [o 6 (.mv (.t 0)),o 7 (.bin .add (.t 6) (i 1)),o 8 (.un .neg (.t 7)),o 9 (.cvt .u64 (.t 8)),o 10 (.bin .add (.t 9) (.c (.int .u64 1))),o 11 (.call 68 [(.t 10)]),o 2 (.mv (.t 11)),o 3 (.mv (.c (.bool true)))] [2,3]) .ret) .skip)) (.seq (r [o 12 (.mv (.t 0)),o 13 (.cvt .u64 (.t 12)),o 14 (.call 68 [(.t 13)]),o 2 (.mv (.t 14)),o 3 (.mv (.c (.bool false)))] [2,3]) .ret))),[.t 2,.t 3]⟩
theorem ref02_size_ok : cFn Tryz.prog (kps [[0],[0,5],[2,3],[2,3]]) [] 102 = some ref02_size_c := by kernel_rfl
abbrev slices_EqualFunc_Type_Value_Type_Value : Nat := 174
def slices_EqualFunc_Type_Value_Type_Value_c : MFn := ⟨32,(.seq (r [o 6 (.mv (.c (.bool false)))] [0,1,2]) (.seq (.seq (r [o 10 (.mv (.t 0)),o 11 (.lenS (.t 10)),o 12 (.mv (.t 1)),o 13 (.lenS (.t 12)),o 14 (.bin .neq (.t 11) (.t 13))] [0,1,2,14]) (.cond (.t 14) (.seq (r [o 6 (.mv (.c (.bool false)))] [6]) .ret) .skip)) (.seq (.seq (r [o 15 (.mv (.t 0)),o 16 (.lenS (.t 15)),o 17 (.mv (i 0))] [1,2,15,16,17]) (.block 0 (.loop (.seq (r [o 18 (.bin .lss (.t 17) (.t 16))] [1,2,15,16,17,18]) (.seq (.cond (.t 18) .skip (.exit 0)) (.seq (.block 1 (.seq (r [o 19 (.mv (.t 17)),o 20 (.ixA 2 (.t 15) (.t 17)),o 21 (.ld (some 2) (.t 20)),o 8 (.alloc [.int .i64 0,.nils]),o 7 (.mv (.t 19)),z (.st 2 (.t 8) (.t 21))] [1,2,7,8,15,16,17]) (.seq (r [o 22 (.mv (.t 1)),o 23 (.mv (.t 7)),o 24 (.ixA 3 (.t 22) (.t 23)),o 25 (.ld (some 3) (.t 24)),o 9 (.alloc zV),z (.st 3 (.t 9) (.t 25))] [1,2,8,9,15,16,17]) (.seq (r [o 26 (.mv (.t 2)),o 27 (.ld (some 2) (.t 8)),o 28 (.ld (some 3) (.t 9)),o 29 (.callV (.t 26) [(.t 27),(.t 28)]),o 30 (.un .not (.t 29))] [1,2,15,16,17,30]) (.cond (.t 30) (.seq (r [o 6 (.mv (.c (.bool false)))] [6]) .ret) .skip))))) (r [o 31 (.bin .add (.t 17) (i 1)),o 17 (.mv (.t 31))] [1,2,15,16,17]))))))) (.seq (r [o 6 (.mv (.c (.bool true)))] [6]) .ret)))),[.t 6]⟩
theorem slices_EqualFunc_Type_Value_Type_Value_ok : cFn Tryz.prog (kps [[0,1,2],[0,1,2,14],[6],[1,2,15,16,17],[1,2,15,16,17,18],[1,2,7,8,15,16,17],[1,2,8,9,15,16,17],[1,2,15,16,17,30],[6],[1,2,15,16,17],[6]]) [] 174 = some slices_EqualFunc_Type_Value_Type_Value_c := by kernel_rfl
abbrev slices_ContainsFunc_Value_Value : Nat := 175
def slices_ContainsFunc_Value_Value_c : MFn := ⟨9,(.seq (r [o 4 (.mv (.c (.bool false)))] [0,1]) (.seq (r [o 5 (.mv (.t 0)),o 6 (.mv (.t 1)),o 7 (.call 181 [(.t 5),(.t 6)]),o 8 (.bin .geq (.t 7) (i 0)),o 4 (.mv (.t 8))] [4]) .ret)),[.t 4]⟩
theorem slices_ContainsFunc_Value_Value_ok : cFn Tryz.prog (kps [[0,1],[4]]) [] 175 = some slices_ContainsFunc_Value_Value_c := by kernel_rfl
abbrev value_has_1 : Nat := 176
def value_has_1_c : MFn := ⟨11,(.seq (r [o 2 (.box (.t 0)),o 3 (.mv (.c (.bool false)))] [1,2]) (.seq (r [o 4 (.fA 1 (.t 1)),o 5 (.ld none (.t 4)),o 6 (.ixA 2 (.t 5) (i 0)),o 7 (.ld (some 2) (.t 6)),o 8 (.ld (some 3) (.t 2)),o 9 (.callF 165 [(.t 7),(.t 8)]),o 10 (.un .not (.t 9)),o 3 (.mv (.t 10))] [3]) .ret)),[.t 3]⟩
theorem value_has_1_ok : cFn Tryz.prog (kps [[1,2],[3]]) [] 176 = some value_has_1_c := by kernel_rfl
abbrev slices_IndexFunc_Value_Value : Nat := 181
def slices_IndexFunc_Value_Value_c : MFn := ⟨19,(.seq (r [o 4 (.mv (i 0))] [0,1]) (.seq (.seq (r [o 6 (.mv (.t 0)),o 7 (.lenS (.t 6)),o 8 (.mv (i 0))] [0,1,7,8]) (.block 0 (.loop (.seq (r [o 9 (.bin .lss (.t 8) (.t 7))] [0,1,7,8,9]) (.seq (.cond (.t 9) .skip (.exit 0)) (.seq (.block 1 (.seq (r [o 10 (.mv (.t 8)),o 5 (.mv (.t 10))] [0,1,5,7,8]) (.seq (r [o 11 (.mv (.t 1)),o 12 (.mv (.t 0)),o 13 (.mv (.t 5)),o 14 (.ixA 3 (.t 12) (.t 13)),o 15 (.ld (some 3) (.t 14)),o 16 (.callV (.t 11) [(.t 15)])] [0,1,5,7,8,16]) (.cond (.t 16) (.seq (r [o 17 (.mv (.t 5)),o 4 (.mv (.t 17))] [4]) .ret) .skip)))) (r [o 18 (.bin .add (.t 8) (i 1)),o 8 (.mv (.t 18))] [0,1,7,8]))))))) (.seq (r [o 4 (.mv (i (-1)))] [4]) .ret))),[.t 4]⟩
theorem slices_IndexFunc_Value_Value_ok : cFn Tryz.prog (kps [[0,1],[0,1,7,8],[0,1,7,8,9],[0,1,5,7,8],[0,1,5,7,8,16],[4],[0,1,7,8],[4]]) [] 181 = some slices_IndexFunc_Value_Value_c := by kernel_rfl
end Go.Proofs.YtipbefckimdkkaaGreat.F

namespace Go.Proofs.YtipbefckimdkkaaGreat
open Go Go.Proofs Go.Proofs.YtipbefckimdkkaaGreat.E
def TAliv6T (f : Nat) : Option MFn :=
 (match Nat.blt f 110 with
 | true =>
   (match Nat.blt f 68 with
   | true =>
     (match Nat.blt f 51 with
     | true =>
       (match Nat.blt f 24 with
       | true =>
         (match Nat.blt f 17 with
         | true =>
           (match Nat.blt f 16 with
           | true =>
             (match Nat.beq f 14 with | true => some F.privacy_Rest_c | false => none)
           | false =>
             (match Nat.beq f 16 with | true => some F.ref02_Compare_c | false => none))
         | false =>
           (match Nat.blt f 18 with
           | true =>
             (match Nat.beq f 17 with | true => some F.ref02_Add_c | false => none)
           | false =>
             (match Nat.blt f 20 with
             | true =>
               (match Nat.beq f 18 with | true => some F.law36_alive_c | false => none)
             | false =>
               (match Nat.beq f 20 with | true => some F.privacy_Rate_c | false => none))))
       | false =>
         (match Nat.blt f 42 with
         | true =>
           (match Nat.blt f 27 with
           | true =>
             (match Nat.beq f 24 with | true => some F.ref02_Same_c | false => none)
           | false =>
             (match Nat.blt f 28 with
             | true =>
               (match Nat.beq f 27 with | true => some F.ref02_Zero_c | false => none)
             | false =>
               (match Nat.beq f 28 with | true => some F.ref02_Sub_c | false => none)))
         | false =>
           (match Nat.blt f 44 with
           | true =>
             (match Nat.beq f 42 with | true => some F.ref02_One_c | false => none)
           | false =>
             (match Nat.blt f 50 with
             | true =>
               (match Nat.beq f 44 with | true => some F.ref02_Sign_c | false => none)
             | false =>
               (match Nat.beq f 50 with | true => some F.privacy_both_c | false => none)))))
     | false =>
       (match Nat.blt f 57 with
       | true =>
         (match Nat.blt f 54 with
         | true =>
           (match Nat.blt f 52 with
           | true =>
             (match Nat.beq f 51 with | true => some F.privacy_rated_c | false => none)
           | false =>
             (match Nat.blt f 53 with
             | true =>
               (match Nat.beq f 52 with | true => some F.privacy_rest_c | false => none)
             | false =>
               (match Nat.beq f 53 with | true => some F.ref02_valid_c | false => none)))
         | false =>
           (match Nat.blt f 55 with
           | true =>
             (match Nat.beq f 54 with | true => some F.ref02_Of_c | false => none)
           | false =>
             (match Nat.blt f 56 with
             | true =>
               (match Nat.beq f 55 with | true => some F.ref01_Mul_c | false => none)
             | false =>
               (match Nat.beq f 56 with | true => some F.ref01_Add_c | false => none))))
       | false =>
         (match Nat.blt f 60 with
         | true =>
           (match Nat.blt f 58 with
           | true =>
             (match Nat.beq f 57 with | true => some F.ref01_Compare_c | false => none)
           | false =>
             (match Nat.blt f 59 with
             | true =>
               (match Nat.beq f 58 with | true => some F.ref01_Sub_c | false => none)
             | false =>
               (match Nat.beq f 59 with | true => some F.law36_coin_c | false => none)))
         | false =>
           (match Nat.blt f 62 with
           | true =>
             (match Nat.beq f 60 with | true => some F.ref02_Make_c | false => none)
           | false =>
             (match Nat.blt f 66 with
             | true =>
               (match Nat.beq f 62 with | true => some F.privacy_rates_c | false => none)
             | false =>
               (match Nat.beq f 66 with | true => some F.privacy_more_c | false => none))))))
   | false =>
     (match Nat.blt f 97 with
     | true =>
       (match Nat.blt f 79 with
       | true =>
         (match Nat.blt f 76 with
         | true =>
           (match Nat.blt f 69 with
           | true =>
             (match Nat.beq f 68 with | true => some F.ref01_Of_c | false => none)
           | false =>
             (match Nat.blt f 74 with
             | true =>
               (match Nat.beq f 69 with | true => some F.ref02_Neg_c | false => none)
             | false =>
               (match Nat.beq f 74 with | true => some F.ratio_Compare_c | false => none)))
         | false =>
           (match Nat.blt f 77 with
           | true =>
             (match Nat.beq f 76 with | true => some F.ratio_Div_c | false => none)
           | false =>
             (match Nat.blt f 78 with
             | true =>
               (match Nat.beq f 77 with | true => some F.ratio_Sub_c | false => none)
             | false =>
               (match Nat.beq f 78 with | true => some F.ratio_Add_c | false => none))))
       | false =>
         (match Nat.blt f 88 with
         | true =>
           (match Nat.blt f 85 with
           | true =>
             (match Nat.beq f 79 with | true => some F.ratio_Mul_c | false => none)
           | false =>
             (match Nat.blt f 87 with
             | true =>
               (match Nat.beq f 85 with | true => some F.ratio_Right_c | false => none)
             | false =>
               (match Nat.beq f 87 with | true => some F.couple_Right_c | false => none)))
         | false =>
           (match Nat.blt f 93 with
           | true =>
             (match Nat.beq f 88 with | true => some F.ratio_Zero_c | false => none)
           | false =>
             (match Nat.blt f 96 with
             | true =>
               (match Nat.beq f 93 with | true => some F.value_Compare_c | false => none)
             | false =>
               (match Nat.beq f 96 with | true => some F.ref01_Gcd_c | false => none)))))
     | false =>
       (match Nat.blt f 103 with
       | true =>
         (match Nat.blt f 100 with
         | true =>
           (match Nat.blt f 98 with
           | true =>
             (match Nat.beq f 97 with | true => some F.ratio_One_c | false => none)
           | false =>
             (match Nat.blt f 99 with
             | true =>
               (match Nat.beq f 98 with | true => some F.ref01_Bits_c | false => none)
             | false =>
               (match Nat.beq f 99 with | true => some F.ref01_Div_c | false => none)))
         | false =>
           (match Nat.blt f 101 with
           | true =>
             (match Nat.beq f 100 with | true => some F.ref01_trim_c | false => none)
           | false =>
             (match Nat.blt f 102 with
             | true =>
               (match Nat.beq f 101 with | true => some F.ref01_at_c | false => none)
             | false =>
               (match Nat.beq f 102 with | true => some F.ref02_size_c | false => none))))
       | false =>
         (match Nat.blt f 106 with
         | true =>
           (match Nat.blt f 104 with
           | true =>
             (match Nat.beq f 103 with | true => some F.privacy_weight_c | false => none)
           | false =>
             (match Nat.blt f 105 with
             | true =>
               (match Nat.beq f 104 with | true => some F.slices_SortFunc_Ratio_Ratio_c | false => none)
             | false =>
               (match Nat.beq f 105 with | true => some F.slices_CompactFunc_Ratio_Ratio_c | false => none)))
         | false =>
           (match Nat.blt f 108 with
           | true =>
             (match Nat.beq f 106 with | true => some F.ratio_Same_c | false => none)
           | false =>
             (match Nat.blt f 109 with
             | true =>
               (match Nat.beq f 108 with | true => some F.ratio_Sign_c | false => none)
             | false =>
               (match Nat.beq f 109 with | true => some F.nat_Compare_c | false => none)))))))
 | false =>
   (match Nat.blt f 139 with
   | true =>
     (match Nat.blt f 124 with
     | true =>
       (match Nat.blt f 115 with
       | true =>
         (match Nat.blt f 112 with
         | true =>
           (match Nat.blt f 111 with
           | true =>
             (match Nat.beq f 110 with | true => some F.nat_Mul_c | false => none)
           | false =>
             (match Nat.beq f 111 with | true => some F.slices_Clone_Nat_uint32_c | false => none))
         | false =>
           (match Nat.blt f 113 with
           | true =>
             (match Nat.beq f 112 with | true => some F.ratio_made_c | false => none)
           | false =>
             (match Nat.blt f 114 with
             | true =>
               (match Nat.beq f 113 with | true => some F.ratio_Neg_c | false => none)
             | false =>
               (match Nat.beq f 114 with | true => some F.nat_Add_c | false => none))))
       | false =>
         (match Nat.blt f 121 with
         | true =>
           (match Nat.blt f 119 with
           | true =>
             (match Nat.beq f 115 with | true => some F.nat_Sub_c | false => none)
           | false =>
             (match Nat.blt f 120 with
             | true =>
               (match Nat.beq f 119 with | true => some F.nat_Right_c | false => none)
             | false =>
               (match Nat.beq f 120 with | true => some F.nat_Small_c | false => none)))
         | false =>
           (match Nat.blt f 122 with
           | true =>
             (match Nat.beq f 121 with | true => some F.nat_Gcd_c | false => none)
           | false =>
             (match Nat.blt f 123 with
             | true =>
               (match Nat.beq f 122 with | true => some F.value_Right_c | false => none)
             | false =>
               (match Nat.beq f 123 with | true => some F.nat_Of_c | false => none)))))
     | false =>
       (match Nat.blt f 133 with
       | true =>
         (match Nat.blt f 130 with
         | true =>
           (match Nat.blt f 128 with
           | true =>
             (match Nat.beq f 124 with | true => some F.slices_BinarySearchFunc_Part_Part_Value_c | false => none)
           | false =>
             (match Nat.blt f 129 with
             | true =>
               (match Nat.beq f 128 with | true => some F.cmp_Compare_int_c | false => none)
             | false =>
               (match Nat.beq f 129 with | true => some F.slices_CompareFunc_Value_Value_Value_Value_c | false => none)))
         | false =>
           (match Nat.blt f 131 with
           | true =>
             (match Nat.beq f 130 with | true => some F.ref01_Small_c | false => none)
           | false =>
             (match Nat.blt f 132 with
             | true =>
               (match Nat.beq f 131 with | true => some F.ref01_even_c | false => none)
             | false =>
               (match Nat.beq f 132 with | true => some F.ref01_half_c | false => none))))
       | false =>
         (match Nat.blt f 136 with
         | true =>
           (match Nat.blt f 134 with
           | true =>
             (match Nat.beq f 133 with | true => some F.ref01_short_c | false => none)
           | false =>
             (match Nat.blt f 135 with
             | true =>
               (match Nat.beq f 134 with | true => some F.ref01_guess_c | false => none)
             | false =>
               (match Nat.beq f 135 with | true => some F.ref01_times_c | false => none)))
         | false =>
           (match Nat.blt f 137 with
           | true =>
             (match Nat.beq f 136 with | true => some F.privacy_weight_1_c | false => none)
           | false =>
             (match Nat.blt f 138 with
             | true =>
               (match Nat.beq f 137 with | true => some F.slices_pdqsortCmpFunc_Ratio_c | false => none)
             | false =>
               (match Nat.beq f 138 with | true => some F.math_bits_Len_c | false => none))))))
   | false =>
     (match Nat.blt f 163 with
     | true =>
       (match Nat.blt f 148 with
       | true =>
         (match Nat.blt f 145 with
         | true =>
           (match Nat.blt f 140 with
           | true =>
             (match Nat.beq f 139 with | true => some F.nat_trim_c | false => none)
           | false =>
             (match Nat.blt f 144 with
             | true =>
               (match Nat.beq f 140 with | true => some F.ratio_Of_c | false => none)
             | false =>
               (match Nat.beq f 144 with | true => some F.nat_Div_c | false => none)))
         | false =>
           (match Nat.blt f 146 with
           | true =>
             (match Nat.beq f 145 with | true => some F.value_shape_c | false => none)
           | false =>
             (match Nat.blt f 147 with
             | true =>
               (match Nat.beq f 146 with | true => some F.value_TypeRight_c | false => none)
             | false =>
               (match Nat.beq f 147 with | true => some F.value_closed_c | false => none))))
       | false =>
         (match Nat.blt f 160 with
         | true =>
           (match Nat.blt f 151 with
           | true =>
             (match Nat.beq f 148 with | true => some F.value_Size_c | false => none)
           | false =>
             (match Nat.blt f 152 with
             | true =>
               (match Nat.beq f 151 with | true => some F.cmp_isNaN_int_c | false => none)
             | false =>
               (match Nat.beq f 152 with | true => some F.slices_insertionSortCmpFunc_Ratio_c | false => none)))
         | false =>
           (match Nat.blt f 161 with
           | true =>
             (match Nat.beq f 160 with | true => some F.math_bits_Len32_c | false => none)
           | false =>
             (match Nat.blt f 162 with
             | true =>
               (match Nat.beq f 161 with | true => some F.math_bits_Len64_c | false => none)
             | false =>
               (match Nat.beq f 162 with | true => some F.nat_short_c | false => none)))))
     | false =>
       (match Nat.blt f 175 with
       | true =>
         (match Nat.blt f 166 with
         | true =>
           (match Nat.blt f 164 with
           | true =>
             (match Nat.beq f 163 with | true => some F.math_bits_LeadingZeros32_c | false => none)
           | false =>
             (match Nat.blt f 165 with
             | true =>
               (match Nat.beq f 164 with | true => some F.nat_shifted_c | false => none)
             | false =>
               (match Nat.beq f 165 with | true => some F.value_has_c | false => none)))
         | false =>
           (match Nat.blt f 167 with
           | true =>
             (match Nat.beq f 166 with | true => some F.value_join_c | false => none)
           | false =>
             (match Nat.blt f 174 with
             | true =>
               (match Nat.beq f 167 with | true => some F.value_deep_c | false => none)
             | false =>
               (match Nat.beq f 174 with | true => some F.slices_EqualFunc_Type_Value_Type_Value_c | false => none))))
       | false =>
         (match Nat.blt f 178 with
         | true =>
           (match Nat.blt f 176 with
           | true =>
             (match Nat.beq f 175 with | true => some F.slices_ContainsFunc_Value_Value_c | false => none)
           | false =>
             (match Nat.blt f 177 with
             | true =>
               (match Nat.beq f 176 with | true => some F.value_has_1_c | false => none)
             | false =>
               (match Nat.beq f 177 with | true => some F.slices_ContainsFunc_Type_Type_c | false => none)))
         | false =>
           (match Nat.blt f 181 with
           | true =>
             (match Nat.beq f 178 with | true => some F.value_deep_1_c | false => none)
           | false =>
             (match Nat.blt f 182 with
             | true =>
               (match Nat.beq f 181 with | true => some F.slices_IndexFunc_Value_Value_c | false => none)
             | false =>
               (match Nat.beq f 182 with | true => some F.slices_IndexFunc_Type_Type_c | false => none))))))))
theorem TAliv6T_ok : TabOK Tryz.prog TAliv6T := by
 intro f mf h
 unfold TAliv6T at h
 repeat' split at h
 all_goals first | (simp at h; done) | skip
 ·rename_i e; have e := Nat.eq_of_beq_eq_true e; subst e; injection h with h; subst h; exact ⟨_, _, F.privacy_Rest_ok⟩
 ·rename_i e; have e := Nat.eq_of_beq_eq_true e; subst e; injection h with h; subst h; exact ⟨_, _, F.ref02_Compare_ok⟩
 ·rename_i e; have e := Nat.eq_of_beq_eq_true e; subst e; injection h with h; subst h; exact ⟨_, _, F.ref02_Add_ok⟩
 ·rename_i e; have e := Nat.eq_of_beq_eq_true e; subst e; injection h with h; subst h; exact ⟨_, _, F.law36_alive_ok⟩
 ·rename_i e; have e := Nat.eq_of_beq_eq_true e; subst e; injection h with h; subst h; exact ⟨_, _, F.privacy_Rate_ok⟩
 ·rename_i e; have e := Nat.eq_of_beq_eq_true e; subst e; injection h with h; subst h; exact ⟨_, _, F.ref02_Same_ok⟩
 ·rename_i e; have e := Nat.eq_of_beq_eq_true e; subst e; injection h with h; subst h; exact ⟨_, _, F.ref02_Zero_ok⟩
 ·rename_i e; have e := Nat.eq_of_beq_eq_true e; subst e; injection h with h; subst h; exact ⟨_, _, F.ref02_Sub_ok⟩
 ·rename_i e; have e := Nat.eq_of_beq_eq_true e; subst e; injection h with h; subst h; exact ⟨_, _, F.ref02_One_ok⟩
 ·rename_i e; have e := Nat.eq_of_beq_eq_true e; subst e; injection h with h; subst h; exact ⟨_, _, F.ref02_Sign_ok⟩
 ·rename_i e; have e := Nat.eq_of_beq_eq_true e; subst e; injection h with h; subst h; exact ⟨_, _, F.privacy_both_ok⟩
 ·rename_i e; have e := Nat.eq_of_beq_eq_true e; subst e; injection h with h; subst h; exact ⟨_, _, F.privacy_rated_ok⟩
 ·rename_i e; have e := Nat.eq_of_beq_eq_true e; subst e; injection h with h; subst h; exact ⟨_, _, F.privacy_rest_ok⟩
 ·rename_i e; have e := Nat.eq_of_beq_eq_true e; subst e; injection h with h; subst h; exact ⟨_, _, F.ref02_valid_ok⟩
 ·rename_i e; have e := Nat.eq_of_beq_eq_true e; subst e; injection h with h; subst h; exact ⟨_, _, F.ref02_Of_ok⟩
 ·rename_i e; have e := Nat.eq_of_beq_eq_true e; subst e; injection h with h; subst h; exact ⟨_, _, F.ref01_Mul_ok⟩
 ·rename_i e; have e := Nat.eq_of_beq_eq_true e; subst e; injection h with h; subst h; exact ⟨_, _, F.ref01_Add_ok⟩
 ·rename_i e; have e := Nat.eq_of_beq_eq_true e; subst e; injection h with h; subst h; exact ⟨_, _, F.ref01_Compare_ok⟩
 ·rename_i e; have e := Nat.eq_of_beq_eq_true e; subst e; injection h with h; subst h; exact ⟨_, _, F.ref01_Sub_ok⟩
 ·rename_i e; have e := Nat.eq_of_beq_eq_true e; subst e; injection h with h; subst h; exact ⟨_, _, F.law36_coin_ok⟩
 ·rename_i e; have e := Nat.eq_of_beq_eq_true e; subst e; injection h with h; subst h; exact ⟨_, _, F.ref02_Make_ok⟩
 ·rename_i e; have e := Nat.eq_of_beq_eq_true e; subst e; injection h with h; subst h; exact ⟨_, _, F.privacy_rates_ok⟩
 ·rename_i e; have e := Nat.eq_of_beq_eq_true e; subst e; injection h with h; subst h; exact ⟨_, _, F.privacy_more_ok⟩
 ·rename_i e; have e := Nat.eq_of_beq_eq_true e; subst e; injection h with h; subst h; exact ⟨_, _, F.ref01_Of_ok⟩
 ·rename_i e; have e := Nat.eq_of_beq_eq_true e; subst e; injection h with h; subst h; exact ⟨_, _, F.ref02_Neg_ok⟩
 ·rename_i e; have e := Nat.eq_of_beq_eq_true e; subst e; injection h with h; subst h; exact ⟨_, _, F.ratio_Compare_ok⟩
 ·rename_i e; have e := Nat.eq_of_beq_eq_true e; subst e; injection h with h; subst h; exact ⟨_, _, F.ratio_Div_ok⟩
 ·rename_i e; have e := Nat.eq_of_beq_eq_true e; subst e; injection h with h; subst h; exact ⟨_, _, F.ratio_Sub_ok⟩
 ·rename_i e; have e := Nat.eq_of_beq_eq_true e; subst e; injection h with h; subst h; exact ⟨_, _, F.ratio_Add_ok⟩
 ·rename_i e; have e := Nat.eq_of_beq_eq_true e; subst e; injection h with h; subst h; exact ⟨_, _, F.ratio_Mul_ok⟩
 ·rename_i e; have e := Nat.eq_of_beq_eq_true e; subst e; injection h with h; subst h; exact ⟨_, _, F.ratio_Right_ok⟩
 ·rename_i e; have e := Nat.eq_of_beq_eq_true e; subst e; injection h with h; subst h; exact ⟨_, _, F.couple_Right_ok⟩
 ·rename_i e; have e := Nat.eq_of_beq_eq_true e; subst e; injection h with h; subst h; exact ⟨_, _, F.ratio_Zero_ok⟩
 ·rename_i e; have e := Nat.eq_of_beq_eq_true e; subst e; injection h with h; subst h; exact ⟨_, _, F.value_Compare_ok⟩
 ·rename_i e; have e := Nat.eq_of_beq_eq_true e; subst e; injection h with h; subst h; exact ⟨_, _, F.ref01_Gcd_ok⟩
 ·rename_i e; have e := Nat.eq_of_beq_eq_true e; subst e; injection h with h; subst h; exact ⟨_, _, F.ratio_One_ok⟩
 ·rename_i e; have e := Nat.eq_of_beq_eq_true e; subst e; injection h with h; subst h; exact ⟨_, _, F.ref01_Bits_ok⟩
 ·rename_i e; have e := Nat.eq_of_beq_eq_true e; subst e; injection h with h; subst h; exact ⟨_, _, F.ref01_Div_ok⟩
 ·rename_i e; have e := Nat.eq_of_beq_eq_true e; subst e; injection h with h; subst h; exact ⟨_, _, F.ref01_trim_ok⟩
 ·rename_i e; have e := Nat.eq_of_beq_eq_true e; subst e; injection h with h; subst h; exact ⟨_, _, F.ref01_at_ok⟩
 ·rename_i e; have e := Nat.eq_of_beq_eq_true e; subst e; injection h with h; subst h; exact ⟨_, _, F.ref02_size_ok⟩
 ·rename_i e; have e := Nat.eq_of_beq_eq_true e; subst e; injection h with h; subst h; exact ⟨_, _, F.privacy_weight_ok⟩
 ·rename_i e; have e := Nat.eq_of_beq_eq_true e; subst e; injection h with h; subst h; exact ⟨_, _, F.slices_SortFunc_Ratio_Ratio_ok⟩
 ·rename_i e; have e := Nat.eq_of_beq_eq_true e; subst e; injection h with h; subst h; exact ⟨_, _, F.slices_CompactFunc_Ratio_Ratio_ok⟩
 ·rename_i e; have e := Nat.eq_of_beq_eq_true e; subst e; injection h with h; subst h; exact ⟨_, _, F.ratio_Same_ok⟩
 ·rename_i e; have e := Nat.eq_of_beq_eq_true e; subst e; injection h with h; subst h; exact ⟨_, _, F.ratio_Sign_ok⟩
 ·rename_i e; have e := Nat.eq_of_beq_eq_true e; subst e; injection h with h; subst h; exact ⟨_, _, F.nat_Compare_ok⟩
 ·rename_i e; have e := Nat.eq_of_beq_eq_true e; subst e; injection h with h; subst h; exact ⟨_, _, F.nat_Mul_ok⟩
 ·rename_i e; have e := Nat.eq_of_beq_eq_true e; subst e; injection h with h; subst h; exact ⟨_, _, F.slices_Clone_Nat_uint32_ok⟩
 ·rename_i e; have e := Nat.eq_of_beq_eq_true e; subst e; injection h with h; subst h; exact ⟨_, _, F.ratio_made_ok⟩
 ·rename_i e; have e := Nat.eq_of_beq_eq_true e; subst e; injection h with h; subst h; exact ⟨_, _, F.ratio_Neg_ok⟩
 ·rename_i e; have e := Nat.eq_of_beq_eq_true e; subst e; injection h with h; subst h; exact ⟨_, _, F.nat_Add_ok⟩
 ·rename_i e; have e := Nat.eq_of_beq_eq_true e; subst e; injection h with h; subst h; exact ⟨_, _, F.nat_Sub_ok⟩
 ·rename_i e; have e := Nat.eq_of_beq_eq_true e; subst e; injection h with h; subst h; exact ⟨_, _, F.nat_Right_ok⟩
 ·rename_i e; have e := Nat.eq_of_beq_eq_true e; subst e; injection h with h; subst h; exact ⟨_, _, F.nat_Small_ok⟩
 ·rename_i e; have e := Nat.eq_of_beq_eq_true e; subst e; injection h with h; subst h; exact ⟨_, _, F.nat_Gcd_ok⟩
 ·rename_i e; have e := Nat.eq_of_beq_eq_true e; subst e; injection h with h; subst h; exact ⟨_, _, F.value_Right_ok⟩
 ·rename_i e; have e := Nat.eq_of_beq_eq_true e; subst e; injection h with h; subst h; exact ⟨_, _, F.nat_Of_ok⟩
 ·rename_i e; have e := Nat.eq_of_beq_eq_true e; subst e; injection h with h; subst h; exact ⟨_, _, F.slices_BinarySearchFunc_Part_Part_Value_ok⟩
 ·rename_i e; have e := Nat.eq_of_beq_eq_true e; subst e; injection h with h; subst h; exact ⟨_, _, F.cmp_Compare_int_ok⟩
 ·rename_i e; have e := Nat.eq_of_beq_eq_true e; subst e; injection h with h; subst h; exact ⟨_, _, F.slices_CompareFunc_Value_Value_Value_Value_ok⟩
 ·rename_i e; have e := Nat.eq_of_beq_eq_true e; subst e; injection h with h; subst h; exact ⟨_, _, F.ref01_Small_ok⟩
 ·rename_i e; have e := Nat.eq_of_beq_eq_true e; subst e; injection h with h; subst h; exact ⟨_, _, F.ref01_even_ok⟩
 ·rename_i e; have e := Nat.eq_of_beq_eq_true e; subst e; injection h with h; subst h; exact ⟨_, _, F.ref01_half_ok⟩
 ·rename_i e; have e := Nat.eq_of_beq_eq_true e; subst e; injection h with h; subst h; exact ⟨_, _, F.ref01_short_ok⟩
 ·rename_i e; have e := Nat.eq_of_beq_eq_true e; subst e; injection h with h; subst h; exact ⟨_, _, F.ref01_guess_ok⟩
 ·rename_i e; have e := Nat.eq_of_beq_eq_true e; subst e; injection h with h; subst h; exact ⟨_, _, F.ref01_times_ok⟩
 ·rename_i e; have e := Nat.eq_of_beq_eq_true e; subst e; injection h with h; subst h; exact ⟨_, _, F.privacy_weight_1_ok⟩
 ·rename_i e; have e := Nat.eq_of_beq_eq_true e; subst e; injection h with h; subst h; exact ⟨_, _, F.slices_pdqsortCmpFunc_Ratio_ok⟩
 ·rename_i e; have e := Nat.eq_of_beq_eq_true e; subst e; injection h with h; subst h; exact ⟨_, _, F.math_bits_Len_ok⟩
 ·rename_i e; have e := Nat.eq_of_beq_eq_true e; subst e; injection h with h; subst h; exact ⟨_, _, F.nat_trim_ok⟩
 ·rename_i e; have e := Nat.eq_of_beq_eq_true e; subst e; injection h with h; subst h; exact ⟨_, _, F.ratio_Of_ok⟩
 ·rename_i e; have e := Nat.eq_of_beq_eq_true e; subst e; injection h with h; subst h; exact ⟨_, _, F.nat_Div_ok⟩
 ·rename_i e; have e := Nat.eq_of_beq_eq_true e; subst e; injection h with h; subst h; exact ⟨_, _, F.value_shape_ok⟩
 ·rename_i e; have e := Nat.eq_of_beq_eq_true e; subst e; injection h with h; subst h; exact ⟨_, _, F.value_TypeRight_ok⟩
 ·rename_i e; have e := Nat.eq_of_beq_eq_true e; subst e; injection h with h; subst h; exact ⟨_, _, F.value_closed_ok⟩
 ·rename_i e; have e := Nat.eq_of_beq_eq_true e; subst e; injection h with h; subst h; exact ⟨_, _, F.value_Size_ok⟩
 ·rename_i e; have e := Nat.eq_of_beq_eq_true e; subst e; injection h with h; subst h; exact ⟨_, _, F.cmp_isNaN_int_ok⟩
 ·rename_i e; have e := Nat.eq_of_beq_eq_true e; subst e; injection h with h; subst h; exact ⟨_, _, F.slices_insertionSortCmpFunc_Ratio_ok⟩
 ·rename_i e; have e := Nat.eq_of_beq_eq_true e; subst e; injection h with h; subst h; exact ⟨_, _, F.math_bits_Len32_ok⟩
 ·rename_i e; have e := Nat.eq_of_beq_eq_true e; subst e; injection h with h; subst h; exact ⟨_, _, F.math_bits_Len64_ok⟩
 ·rename_i e; have e := Nat.eq_of_beq_eq_true e; subst e; injection h with h; subst h; exact ⟨_, _, F.nat_short_ok⟩
 ·rename_i e; have e := Nat.eq_of_beq_eq_true e; subst e; injection h with h; subst h; exact ⟨_, _, F.math_bits_LeadingZeros32_ok⟩
 ·rename_i e; have e := Nat.eq_of_beq_eq_true e; subst e; injection h with h; subst h; exact ⟨_, _, F.nat_shifted_ok⟩
 ·rename_i e; have e := Nat.eq_of_beq_eq_true e; subst e; injection h with h; subst h; exact ⟨_, _, F.value_has_ok⟩
 ·rename_i e; have e := Nat.eq_of_beq_eq_true e; subst e; injection h with h; subst h; exact ⟨_, _, F.value_join_ok⟩
 ·rename_i e; have e := Nat.eq_of_beq_eq_true e; subst e; injection h with h; subst h; exact ⟨_, _, F.value_deep_ok⟩
 ·rename_i e; have e := Nat.eq_of_beq_eq_true e; subst e; injection h with h; subst h; exact ⟨_, _, F.slices_EqualFunc_Type_Value_Type_Value_ok⟩
 ·rename_i e; have e := Nat.eq_of_beq_eq_true e; subst e; injection h with h; subst h; exact ⟨_, _, F.slices_ContainsFunc_Value_Value_ok⟩
 ·rename_i e; have e := Nat.eq_of_beq_eq_true e; subst e; injection h with h; subst h; exact ⟨_, _, F.value_has_1_ok⟩
 ·rename_i e; have e := Nat.eq_of_beq_eq_true e; subst e; injection h with h; subst h; exact ⟨_, _, F.slices_ContainsFunc_Type_Type_ok⟩
 ·rename_i e; have e := Nat.eq_of_beq_eq_true e; subst e; injection h with h; subst h; exact ⟨_, _, F.value_deep_1_ok⟩
 ·rename_i e; have e := Nat.eq_of_beq_eq_true e; subst e; injection h with h; subst h; exact ⟨_, _, F.slices_IndexFunc_Value_Value_ok⟩
 ·rename_i e; have e := Nat.eq_of_beq_eq_true e; subst e; injection h with h; subst h; exact ⟨_, _, F.slices_IndexFunc_Type_Type_ok⟩
end Go.Proofs.YtipbefckimdkkaaGreat

namespace Go.Proofs.YtipbefckimdkkaaGreat
open Go Go.Proofs Go.Proofs.YtipbefckimdkkaaGreat.E
def aliv6X (f : Nat) : Bool := match Nat.beq f F.nat_shifted || (Nat.beq f F.slices_SortFunc_Ratio_Ratio || (Nat.beq f F.slices_pdqsortCmpFunc_Ratio || (Nat.beq f F.slices_insertionSortCmpFunc_Ratio))) with | true => true | false => false
def aliv6B (f : Nat) (ds : List V) : Option V := match Nat.beq f F.slices_Clone_Nat_uint32, ds with | true, [.dat []] => some (.dat []) | _, _ => none
theorem aliv6B_ok : BOK Tryz.prog aliv6B := by
 intro f ds d h
 unfold aliv6B at h
 split at h
 ·rename_i e
  have e := Nat.eq_of_beq_eq_true e
  subst e
  injection h with h
  subst h
  exact slices_Clone (l := []) (by simp)
 ·simp at h
set_option maxRecDepth 100000 in
theorem law36_alive : CallD Tryz.prog F.law36_alive [] (· = .bool true) :=
 callD_run (X := aliv6X) TAliv6T_ok aliv6B_ok 100 (by kernel_rfl)
end Go.Proofs.YtipbefckimdkkaaGreat
