/- Joined texts: CBlk, CBlk2, CBlk3. -/
import Derived.Test.YtnneehniendnfaaGreatGS
import Derived.Test.YtnneehniendnfaaGreatGD
import Derived.Test.YtnneehniendnfaaGreatGQ
/- Functions of the program, as the engine reads them; each is held against the translation. -/
namespace Go.Proofs.YtnneehniendnfaaGreat.F
open Go Go.Proofs Go.Proofs.YtnneehniendnfaaGreat.E Go.Proofs.YtnneehniendnfaaGreat.Q
abbrev couple_related : Nat := 79
def couple_related_c : MFn :=
  ⟨64,(.seq (r [o 6 (.mv (.c .nils))] [0,1,2]) (.seq (r [o 11 (.mv (.t 0)),o 12 (.lenS (.t 11)),o 13 (.mkSl 1 24 [.nils] (.t 12) (.t 12)),o 7 (.mv (.t 13))] [0,1,2,7]) (.seq (.seq (r [o 14 (.mv (.t 7)),
  o 15 (.lenS (.t 14)),o 16 (.mv (i 0))] [0,1,2,7,15,16]) (.block 0 (.loop (.seq (r [o 17 (.bin .lss (.t 16) (.t 15))] [0,1,2,7,15,16,17]) (.seq (.cond (.t 17) .skip (.exit 0))
  (.seq (.block 1 (.seq (r [o 18 (.mv (.t 16)),o 8 (.mv (.t 18))] [0,1,2,7,8,15,16]) (r [o 19 (.mv (.t 7)),o 20 (.mv (.t 8)),o 21 (.mv (.t 1)),o 22 (.lenS (.t 21)),
  o 23 (.mkSl 1 1 [.bool false] (.t 22) (.t 22)),o 24 (.ixA 1 (.t 19) (.t 20)),z (.st 1 (.t 24) (.t 23))] [0,1,2,7,15,16]))) (r [o 25 (.bin .add (.t 16) (i 1)),o 16 (.mv (.t 25))] [0,1,2,7,15,
  16]))))))) (.seq (.seq (r [o 26 (.mv (.t 2)),o 27 (.lenS (.t 26)),o 28 (.mv (i 0))] [0,1,7,26,27,28]) (.block 2 (.loop (.seq (r [o 29 (.bin .lss (.t 28) (.t 27))] [0,1,7,26,27,28,29])
  (.seq (.cond (.t 29) .skip (.exit 2)) (.seq (.block 3 (.seq (r [o 30 (.ixA 2 (.t 26) (.t 28)),o 31 (.ld (some 2) (.t 30)),o 10 (.alloc [.int .i64 0,.int .i64 0]),z (.st 2 (.t 10) (.t 31))] [0,1,7,
  10,26,27,28]) (.seq (r [o 32 (.ixArr 2 1 (.t 10) (i 0)),o 33 (.ld none (.t 32)),o 34 (.bin .geq (.t 33) (i 0)),o 35 (.mv (.t 34)),y 36 35 (.ixArr 2 1 (.t 10) (i 0)),y 37 35 (.ld none (.t 36)),
  y 38 35 (.mv (.t 0)),y 39 35 (.lenS (.t 38)),y 40 35 (.bin .lss (.t 37) (.t 39)),o 41 (.pick (.t 35) (.t 40) (.c (.bool false))),o 42 (.mv (.t 41)),y 43 42 (.ixArr 2 1 (.t 10) (i 1)),
  y 44 42 (.ld none (.t 43)),y 45 42 (.bin .geq (.t 44) (i 0)),o 46 (.pick (.t 42) (.t 45) (.c (.bool false))),o 47 (.mv (.t 46)),y 48 47 (.ixArr 2 1 (.t 10) (i 1)),y 49 47 (.ld none (.t 48)),
  y 50 47 (.mv (.t 1)),y 51 47 (.lenS (.t 50)),y 52 47 (.bin .lss (.t 49) (.t 51)),o 53 (.pick (.t 47) (.t 52) (.c (.bool false)))] [0,1,7,10,26,27,28,53]) (.cond (.t 53) (r [o 54 (.mv (.t 7)),
  o 55 (.ixArr 2 1 (.t 10) (i 0)),o 56 (.ld none (.t 55)),o 57 (.ixA 1 (.t 54) (.t 56)),o 58 (.ld none (.t 57)),o 59 (.ixArr 2 1 (.t 10) (i 1)),o 60 (.ld none (.t 59)),o 61 (.ixA 1 (.t 58) (.t 60)),
  z (.st 1 (.t 61) (.c (.bool true)))] [0,1,7,26,27,28]) .skip)))) (r [o 62 (.bin .add (.t 28) (i 1)),o 28 (.mv (.t 62))] [0,1,7,26,27,28]))))))) (.seq (r [o 63 (.mv (.t 7)),o 6 (.mv (.t 63))] [6])
  .ret))))),[.t 6]⟩
theorem couple_related_ok : cFn Tryz.prog (kps [[0,1,2],[0,1,2,7],[0,1,2,7,15,16],[0,1,2,7,15,16,17],[0,1,2,7,8,15,16],[0,1,2,7,15,16],[0,1,2,7,15,16],[0,1,7,26,27,28],[0,1,7,26,27,28,29],[0,1,7,10,26,27,28],[0,1,7,10,26,27,28,53],[0,1,7,26,27,28],[0,1,7,26,27,28],[6]]) [] 79 = some couple_related_c := by kernel_rfl
abbrev slices_IndexFunc_Sint_int : Nat := 119
def slices_IndexFunc_Sint_int_c : MFn :=
  ⟨19,(.seq (r [o 4 (.mv (i 0))] [0,1]) (.seq (.seq (r [o 6 (.mv (.t 0)),o 7 (.lenS (.t 6)),o 8 (.mv (i 0))] [0,1,7,8]) (.block 0 (.loop (.seq (r [o 9 (.bin .lss (.t 8) (.t 7))] [0,1,7,8,9])
  (.seq (.cond (.t 9) .skip (.exit 0)) (.seq (.block 1 (.seq (r [o 10 (.mv (.t 8)),o 5 (.mv (.t 10))] [0,1,5,7,8]) (.seq (r [o 11 (.mv (.t 1)),o 12 (.mv (.t 0)),o 13 (.mv (.t 5)),o 14 (.ixA 1 (.t 12)
  (.t 13)),o 15 (.ld none (.t 14)),o 16 (.callV (.t 11) [(.t 15)])] [0,1,5,7,8,16]) (.cond (.t 16) (.seq (r [o 17 (.mv (.t 5)),o 4 (.mv (.t 17))] [4]) .ret) .skip)))) (r [o 18 (.bin .add (.t 8)
  (i 1)),o 8 (.mv (.t 18))] [0,1,7,8]))))))) (.seq (r [o 4 (.mv (i (-1)))] [4]) .ret))),[.t 4]⟩
theorem slices_IndexFunc_Sint_int_ok : cFn Tryz.prog (kps [[0,1],[0,1,7,8],[0,1,7,8,9],[0,1,5,7,8],[0,1,5,7,8,16],[4],[0,1,7,8],[4]]) [] 119 = some slices_IndexFunc_Sint_int_c := by kernel_rfl
abbrev slices_ContainsFunc_Sint_int : Nat := 80
def slices_ContainsFunc_Sint_int_c : MFn :=
  ⟨9,(.seq (r [o 4 (.mv (.c (.bool false)))] [0,1]) (.seq (r [o 5 (.mv (.t 0)),o 6 (.mv (.t 1)),o 7 (.call 119 [(.t 5),(.t 6)]),o 8 (.bin .geq (.t 7) (i 0)),o 4 (.mv (.t 8))] [4]) .ret)),[.t 4]⟩
theorem slices_ContainsFunc_Sint_int_ok : cFn Tryz.prog (kps [[0,1],[4]]) [] 80 = some slices_ContainsFunc_Sint_int_c := by kernel_rfl
abbrev couple_Blocks_1 : Nat := 81
def couple_Blocks_1_c : MFn :=
  ⟨12,(.seq (r [o 4 (.mv (.c (.bool false)))] [0,1,2]) (.seq (r [o 5 (.ld none (.t 1)),o 6 (.mv (.t 0)),o 7 (.ixA 1 (.t 5) (.t 6)),o 8 (.ld none (.t 7)),o 9 (.ld none (.t 2)),o 10 (.ixA 1 (.t 8)
  (.t 9)),o 11 (.ld none (.t 10)),o 4 (.mv (.t 11))] [4]) .ret)),[.t 4]⟩
theorem couple_Blocks_1_ok : cFn Tryz.prog (kps [[0,1,2],[4]]) [] 81 = some couple_Blocks_1_c := by kernel_rfl
abbrev couple_Blocks : Nat := 33
def couple_Blocks_c : MFn :=
  ⟨85,(.seq (r [o 8 (.mv (.c (.bool false)))] [0,1,2,3]) (.seq (.seq (r [o 15 (.mv (.t 0)),o 16 (.call 14 [(.t 15)]),o 17 (.un .not (.t 16)),o 18 (.mv (.t 17)),n 19 18 (.mv (.t 1)),
  n 20 18 (.call 14 [(.t 19)]),n 21 18 (.un .not (.t 20)),o 22 (.pick (.t 18) (.c (.bool true)) (.t 21))] [0,1,2,3,22]) (.cond (.t 22) (.seq (r [o 8 (.mv (.c (.bool false)))] [8]) .ret) .skip))
  (.seq (r [o 23 (.mv (.t 0)),o 24 (.mv (.t 1)),o 25 (.mv (.t 2)),o 26 (.call 79 [(.t 23),(.t 24),(.t 25)]),o 9 (.alloc [.nils]),z (.st 1 (.t 9) (.t 26))] [0,1,3,9]) (.seq (r [o 27 (.call 41 []),
  o 28 (.call 41 []),o 10 (.alloc [.bool false,.nils,.nils]),o 11 (.alloc [.bool false,.nils,.nils]),z (.st 3 (.t 10) (.t 27)),z (.st 3 (.t 11) (.t 28))] [0,1,3,9,10,11])
  (.seq (.seq (r [o 29 (.mv (.t 3)),o 30 (.lenS (.t 29)),o 31 (.mv (i 0))] [0,1,3,9,10,11,29,30,31]) (.block 0 (.loop (.seq (r [o 32 (.bin .lss (.t 31) (.t 30))] [0,1,3,9,10,11,29,30,31,32])
  (.seq (.cond (.t 32) .skip (.exit 0)) (.seq (.block 1 (.seq (r [o 33 (.mv (.t 31)),o 34 (.ixA 1 (.t 29) (.t 31)),o 35 (.ld none (.t 34)),o 12 (.mv (.t 33)),o 13 (.mv (.t 35))] [0,1,3,9,10,11,12,13,
  29,30,31]) (.seq (.seq (r [o 36 (.mv (.t 13)),o 37 (.bin .lss (.t 36) (i 0)),o 38 (.mv (.t 37)),n 39 38 (.mv (.t 13)),n 40 38 (.mv (.t 0)),n 41 38 (.lenS (.t 40)),n 42 38 (.bin .geq (.t 39)
  (.t 41)),o 43 (.pick (.t 38) (.c (.bool true)) (.t 42)),o 44 (.mv (.t 43)),n 45 44 (.mv (.t 12)),n 46 44 (.bin .gtr (.t 45) (i 0)),n 47 44 (.mv (.t 46)),y 48 47 (.mv (.t 3)),y 49 47 (.mv (.t 12)),
  y 50 47 (.bin .sub (.t 49) (i 1)),y 51 47 (.ixA 1 (.t 48) (.t 50)),y 52 47 (.ld none (.t 51)),y 53 47 (.mv (.t 13)),y 54 47 (.bin .geq (.t 52) (.t 53)),n 55 44 (.pick (.t 47) (.t 54)
  (.c (.bool false))),o 56 (.pick (.t 44) (.c (.bool true)) (.t 55))] [0,1,3,9,10,11,13,29,30,31,56]) (.cond (.t 56) (.seq (r [o 8 (.mv (.c (.bool false)))] [8]) .ret) .skip)) (r [o 57 (.ld (some 3)
  (.t 10)),o 58 (.mv (.t 0)),o 59 (.mv (.t 13)),o 60 (.ixA 6 (.t 58) (.t 59)),o 61 (.fA 3 (.t 60)),o 62 (.ld (some 3) (.t 61)),o 63 (.callF 46 [(.t 57),(.t 62)]),z (.st 3 (.t 10) (.t 63))] [0,1,3,9,
  10,11,29,30,31])))) (r [o 64 (.bin .add (.t 31) (i 1)),o 31 (.mv (.t 64))] [0,1,3,9,10,11,29,30,31]))))))) (.seq (.seq (r [o 65 (.mv (.t 1)),o 66 (.lenS (.t 65)),o 67 (.mv (i 0))] [1,3,9,10,11,66,
  67]) (.block 2 (.loop (.seq (r [o 68 (.bin .lss (.t 67) (.t 66))] [1,3,9,10,11,66,67,68]) (.seq (.cond (.t 68) .skip (.exit 2)) (.seq (.block 3 (.seq (r [o 69 (.mv (.t 67)),
  o 14 (.alloc [.int .i64 0]),z (.st 1 (.t 14) (.t 69))] [1,3,9,10,11,14,66,67]) (.seq (r [o 70 (.mv (.t 3)),o 71 (.mkF 81 [(.t 9),(.t 14)]),o 72 (.call 80 [(.t 70),(.t 71)])] [1,3,9,10,11,14,66,67,
  72]) (.cond (.t 72) (r [o 73 (.ld (some 3) (.t 11)),o 74 (.mv (.t 1)),o 75 (.ld none (.t 14)),o 76 (.ixA 6 (.t 74) (.t 75)),o 77 (.fA 3 (.t 76)),o 78 (.ld (some 3) (.t 77)),o 79 (.callF 46 [(.t 73),
  (.t 78)]),z (.st 3 (.t 11) (.t 79))] [1,3,9,10,11,66,67]) .skip)))) (r [o 80 (.bin .add (.t 67) (i 1)),o 67 (.mv (.t 80))] [1,3,9,10,11,66,67]))))))) (.seq (r [o 81 (.ld (some 3) (.t 10)),
  o 82 (.ld (some 3) (.t 11)),o 83 (.call 82 [(.t 81),(.t 82)]),o 84 (.bin .gtr (.t 83) (i 0)),o 8 (.mv (.t 84))] [8]) .ret))))))),[.t 8]⟩
theorem couple_Blocks_ok : cFn Tryz.prog (kps [[0,1,2,3],[0,1,2,3,22],[8],[0,1,3,9],[0,1,3,9,10,11],[0,1,3,9,10,11,29,30,31],[0,1,3,9,10,11,29,30,31,32],[0,1,3,9,10,11,12,13,29,30,31],[0,1,3,9,10,11,13,29,30,31,56],[8],[0,1,3,9,10,11,29,30,31],[0,1,3,9,10,11,29,30,31],[1,3,9,10,11,66,67],[1,3,9,10,11,66,67,68],[1,3,9,10,11,14,66,67],[1,3,9,10,11,14,66,67,72],[1,3,9,10,11,66,67],[1,3,9,10,11,66,67],[8]]) [] 33 = some couple_Blocks_c := by kernel_rfl
abbrev ref35_Blocks : Nat := 34
def ref35_Blocks_c : MFn :=
  ⟨110,(.seq (r [o 8 (.mv (.c (.bool false)))] [0,1,2,3]) (.seq (.seq (r [o 19 (.mv (.t 0)),o 20 (.call 15 [(.t 19)]),o 21 (.un .not (.t 20)),o 22 (.mv (.t 21)),n 23 22 (.mv (.t 1)),
  n 24 22 (.call 15 [(.t 23)]),n 25 22 (.un .not (.t 24)),o 26 (.pick (.t 22) (.c (.bool true)) (.t 25))] [0,1,2,3,26]) (.cond (.t 26) (.seq (r [o 8 (.mv (.c (.bool false)))] [8]) .ret) .skip))
  (.seq (r [o 27 (.call 29 []),o 9 (.alloc [.bool false,.nils,.nils]),z (.st 3 (.t 9) (.t 27))] [0,1,2,3,9]) (.seq (.seq (r [o 28 (.mv (.t 3)),o 29 (.lenS (.t 28)),o 30 (.mv (i 0))] [0,1,2,3,9,28,29,
  30]) (.block 0 (.loop (.seq (r [o 31 (.bin .lss (.t 30) (.t 29))] [0,1,2,3,9,28,29,30,31]) (.seq (.cond (.t 31) .skip (.exit 0)) (.seq (.block 1 (.seq (r [o 32 (.mv (.t 30)),o 33 (.ixA 1 (.t 28)
  (.t 30)),o 34 (.ld none (.t 33)),o 10 (.mv (.t 32)),o 11 (.mv (.t 34))] [0,1,2,3,9,10,11,28,29,30]) (.seq (.seq (r [o 35 (.mv (.t 11)),o 36 (.bin .lss (.t 35) (i 0)),o 37 (.mv (.t 36)),
  n 38 37 (.mv (.t 11)),n 39 37 (.mv (.t 0)),n 40 37 (.lenS (.t 39)),n 41 37 (.bin .geq (.t 38) (.t 40)),o 42 (.pick (.t 37) (.c (.bool true)) (.t 41)),o 43 (.mv (.t 42)),n 44 43 (.mv (.t 10)),
  n 45 43 (.bin .gtr (.t 44) (i 0)),n 46 43 (.mv (.t 45)),y 47 46 (.mv (.t 3)),y 48 46 (.mv (.t 10)),y 49 46 (.bin .sub (.t 48) (i 1)),y 50 46 (.ixA 1 (.t 47) (.t 49)),y 51 46 (.ld none (.t 50)),
  y 52 46 (.mv (.t 11)),y 53 46 (.bin .geq (.t 51) (.t 52)),n 54 43 (.pick (.t 46) (.t 53) (.c (.bool false))),o 55 (.pick (.t 43) (.c (.bool true)) (.t 54))] [0,1,2,3,9,11,28,29,30,55])
  (.cond (.t 55) (.seq (r [o 8 (.mv (.c (.bool false)))] [8]) .ret) .skip)) (r [o 56 (.ld (some 3) (.t 9)),o 57 (.mv (.t 0)),o 58 (.mv (.t 11)),o 59 (.ixA 6 (.t 57) (.t 58)),o 60 (.fA 3 (.t 59)),
  o 61 (.ld (some 3) (.t 60)),o 62 (.callF 30 [(.t 56),(.t 61)]),z (.st 3 (.t 9) (.t 62))] [0,1,2,3,9,28,29,30])))) (r [o 63 (.bin .add (.t 30) (i 1)),o 30 (.mv (.t 63))] [0,1,2,3,9,28,29,30])))))))
  (.seq (r [o 64 (.call 29 []),o 12 (.alloc [.bool false,.nils,.nils]),z (.st 3 (.t 12) (.t 64))] [1,2,3,9,12]) (.seq (.seq (r [o 65 (.mv (.t 1)),o 66 (.lenS (.t 65)),o 67 (.mv (i 0))] [1,2,3,9,12,66,
  67]) (.block 2 (.loop (.seq (r [o 68 (.bin .lss (.t 67) (.t 66))] [1,2,3,9,12,66,67,68]) (.seq (.cond (.t 68) .skip (.exit 2)) (.seq (.block 3 (.seq (r [o 69 (.mv (.t 67)),o 13 (.mv (.t 69))] [1,2,
  3,9,12,13,66,67]) (.seq (r [o 14 (.mv (.c (.bool false)))] [1,2,3,9,12,13,14,66,67]) (.seq (.seq (r [o 70 (.mv (.t 2)),o 71 (.lenS (.t 70)),o 72 (.mv (i 0))] [1,2,3,9,12,13,14,66,67,70,71,72])
  (.block 4 (.loop (.seq (r [o 73 (.bin .lss (.t 72) (.t 71))] [1,2,3,9,12,13,14,66,67,70,71,72,73]) (.seq (.cond (.t 73) .skip (.exit 4)) (.seq (.block 5 (.seq (r [o 74 (.ixA 2 (.t 70) (.t 72)),
  o 75 (.ld (some 2) (.t 74)),o 16 (.alloc [.int .i64 0,.int .i64 0]),z (.st 2 (.t 16) (.t 75))] [1,2,3,9,12,13,14,16,66,67,70,71,72]) (.seq (r [o 76 (.mv (.t 3)),o 77 (.lenS (.t 76)),
  o 78 (.mv (i 0))] [1,2,3,9,12,13,14,16,66,67,70,71,72,76,77,78]) (.block 6 (.loop (.seq (r [o 79 (.bin .lss (.t 78) (.t 77))] [1,2,3,9,12,13,14,16,66,67,70,71,72,76,77,78,79]) (.seq (.cond (.t 79)
  .skip (.exit 6)) (.seq (.block 7 (.seq (r [o 80 (.ixA 1 (.t 76) (.t 78)),o 81 (.ld none (.t 80)),o 18 (.mv (.t 81))] [1,2,3,9,12,13,14,16,18,66,67,70,71,72,76,77,78]) (r [o 82 (.mv (.t 14)),
  o 83 (.mv (.t 82)),n 84 83 (.ixArr 2 1 (.t 16) (i 0)),n 85 83 (.ld none (.t 84)),n 86 83 (.mv (.t 18)),n 87 83 (.bin .eql (.t 85) (.t 86)),n 88 83 (.mv (.t 87)),y 89 88 (.ixArr 2 1 (.t 16) (i 1)),
  y 90 88 (.ld none (.t 89)),y 91 88 (.mv (.t 13)),y 92 88 (.bin .eql (.t 90) (.t 91)),n 93 83 (.pick (.t 88) (.t 92) (.c (.bool false))),o 94 (.pick (.t 83) (.c (.bool true)) (.t 93)),
  o 14 (.mv (.t 94))] [1,2,3,9,12,13,14,16,66,67,70,71,72,76,77,78]))) (r [o 95 (.bin .add (.t 78) (i 1)),o 78 (.mv (.t 95))] [1,2,3,9,12,13,14,16,66,67,70,71,72,76,77,78])))))))))
  (r [o 96 (.bin .add (.t 72) (i 1)),o 72 (.mv (.t 96))] [1,2,3,9,12,13,14,66,67,70,71,72]))))))) (.seq (r [o 97 (.mv (.t 14))] [1,2,3,9,12,13,66,67,97]) (.cond (.t 97) (r [o 98 (.ld (some 3)
  (.t 12)),o 99 (.mv (.t 1)),o 100 (.mv (.t 13)),o 101 (.ixA 6 (.t 99) (.t 100)),o 102 (.fA 3 (.t 101)),o 103 (.ld (some 3) (.t 102)),o 104 (.callF 30 [(.t 98),(.t 103)]),z (.st 3 (.t 12)
  (.t 104))] [1,2,3,9,12,66,67]) .skip)))))) (r [o 105 (.bin .add (.t 67) (i 1)),o 67 (.mv (.t 105))] [1,2,3,9,12,66,67]))))))) (.seq (r [o 106 (.ld (some 3) (.t 9)),o 107 (.ld (some 3) (.t 12)),
  o 108 (.call 27 [(.t 106),(.t 107)]),o 109 (.bin .gtr (.t 108) (i 0)),o 8 (.mv (.t 109))] [8]) .ret))))))),[.t 8]⟩
theorem ref35_Blocks_ok : cFn Tryz.prog (kps [[0,1,2,3],[0,1,2,3,26],[8],[0,1,2,3,9],[0,1,2,3,9,28,29,30],[0,1,2,3,9,28,29,30,31],[0,1,2,3,9,10,11,28,29,30],[0,1,2,3,9,11,28,29,30,55],[8],[0,1,2,3,9,28,29,30],[0,1,2,3,9,28,29,30],[1,2,3,9,12],[1,2,3,9,12,66,67],[1,2,3,9,12,66,67,68],[1,2,3,9,12,13,66,67],[1,2,3,9,12,13,14,66,67],[1,2,3,9,12,13,14,66,67,70,71,72],[1,2,3,9,12,13,14,66,67,70,71,72,73],[1,2,3,9,12,13,14,16,66,67,70,71,72],[1,2,3,9,12,13,14,16,66,67,70,71,72,76,77,78],[1,2,3,9,12,13,14,16,66,67,70,71,72,76,77,78,79],[1,2,3,9,12,13,14,16,18,66,67,70,71,72,76,77,78],[1,2,3,9,12,13,14,16,66,67,70,71,72,76,77,78],[1,2,3,9,12,13,14,16,66,67,70,71,72,76,77,78],[1,2,3,9,12,13,14,66,67,70,71,72],[1,2,3,9,12,13,66,67,97],[1,2,3,9,12,66,67],[1,2,3,9,12,66,67],[8]]) [] 34 = some ref35_Blocks_c := by kernel_rfl
end Go.Proofs.YtnneehniendnfaaGreat.F

namespace Go.Proofs.YtnneehniendnfaaGreat
open Go Go.Proofs Go.Proofs.YtnneehniendnfaaGreat.E
set_option linter.unusedSimpArgs false
set_option linter.unusedVariables false
def mayC (m : Int × Int) : List V := [.int .i64 m.1, .int .i64 m.2]
abbrev mayV (l : List (Int × Int)) : V := .dat (l.map mayC)
def relB (may : List (Int × Int)) (i k : Nat) : Bool := may.any fun m => decide (m.1 = i) && decide (m.2 = k)
theorem relB_snoc (may : List (Int × Int)) (m : Int × Int) (i k : Nat) : relB (may ++ [m]) i k = (relB may i k || (decide (m.1 = i) && decide (m.2 = k))) := by simp [relB]
def rowB (m : Nat) (f : Nat → Bool) : List (List V) := (List.range m).map fun k => [.bool (f k)]
def relV (n m : Nat) (f : Nat → Nat → Bool) : V := .dat ((List.range n).map fun i => [.dat (rowB m (f i))])
@[simp] theorem rowB_len (m : Nat) (f : Nat → Bool) : (rowB m f).length = m := by simp [rowB]
theorem rowB_set {m k : Nat} {f : Nat → Bool} (hk : k < m) : (rowB m f).set k [.bool true] = rowB m (fun j => f j || decide (j = k)) := by
  apply List.ext_getElem
  · simp
  · intro i h1 h2
    rw [List.getElem_set]
    by_cases e : k = i
    · subst e; simp [rowB]
    · have e' : ¬ i = k := fun h => e h.symm
      simp [rowB, e, e']
theorem rowB_get {m k : Nat} {f : Nat → Bool} (hk : k < (rowB m f).length) : (rowB m f)[k] = [.bool (f k)] := by simp [rowB]
theorem rowB_plain (m : Nat) (f : Nat → Bool) : Plain (rowB m f) := by
  intro r hr y hy p
  obtain ⟨k, _, rfl⟩ := List.mem_map.1 hr
  simp at hy; subst hy; simp
theorem rowB_false (m : Nat) : List.replicate m [V.bool false] = rowB m (fun _ => false) := by
  apply List.ext_getElem <;> simp [rowB]
structure Mat (σ : Sto) (q : Nat) (ids : List Nat) (m : Nat) (rest : List (List V)) (f : Nat → Nat → Bool) : Prop where
  outer : E.look σ q = some ⟨.own, 1, (ids.map fun o => [V.ref o 0 m]) ++ rest⟩
  nd : ids.Nodup
  nq : q ∉ ids
  row : ∀ j (h : j < ids.length), E.look σ ids[j] = some ⟨.own, 1, rowB m (f j)⟩
  shut : Shut σ
theorem Mat.add {σ : Sto} {q m : Nat} {ids : List Nat} {k : Nat} (h : Mat σ q ids m (List.replicate (k + 1) [.nils]) fun _ _ => false) :
    Mat (setOb (setOb σ (fresh σ) ⟨.own, 1, List.replicate m [.bool false]⟩) q ⟨.own, 1, (ids.map fun o => [V.ref o 0 m]) ++ (List.replicate (k + 1) [V.nils]).set 0 [.ref (fresh σ) 0 m]⟩) q (ids ++ [fresh σ]) m (List.replicate k [.nils]) fun _ _ => false := by
  have hq := lt_fresh h.outer
  have hids : ∀ o ∈ ids, o < fresh σ := fun o ho => by
    obtain ⟨j, hj, rfl⟩ := List.getElem_of_mem ho
    exact lt_fresh (h.row j hj)
  have e : (ids.map fun o => [V.ref o 0 m]) ++ (List.replicate (k + 1) [V.nils]).set 0 [V.ref (fresh σ) 0 m] = ((ids ++ [fresh σ]).map fun o => [V.ref o 0 m]) ++ List.replicate k [V.nils] := by
    simp [List.replicate_succ]
  rw [e]
  refine ⟨by simp, ?_, ?_, fun j hj => ?_, ?_⟩
  · rw [List.nodup_append]
    exact ⟨h.nd, by simp, fun a ha b hb => by simp at hb; subst hb; have := hids a ha; omega⟩
  · simp only [List.mem_append, List.mem_singleton]
    rintro (h1 | h1)
    · exact h.nq h1
    · omega
  · rw [look_setOb, look_setOb]
    by_cases hj2 : j < ids.length
    · have hg : (ids ++ [fresh σ])[j] = ids[j] := List.getElem_append_left hj2
      have hm := List.getElem_mem hj2
      rw [hg, if_neg (fun e => h.nq (by rw [← e]; exact hm)), if_neg (by have := hids _ hm; omega)]
      exact h.row j hj2
    · have hjl : j = ids.length := by simp at hj; omega
      subst hjl
      simp only [List.getElem_append_right (Nat.le_refl _), Nat.sub_self, List.getElem_singleton]
      rw [if_neg (by omega)]
      simp [rowB_false]
  · intro o x ho hx r hr y hy
    rw [look_setOb] at ho
    by_cases e1 : o = q
    · rw [if_pos e1] at ho; injection ho with ho; subst ho
      simp only [List.mem_append, List.mem_map] at hr
      rcases hr with ⟨a, ha, rfl⟩ | hr
      · simp at hy; subst hy
        simp only [within_ref, look_setOb]
        split
        · rfl
        · rcases ha with ha | ha
          · obtain ⟨j, hj, rfl⟩ := List.getElem_of_mem ha
            split
            · rfl
            · rw [h.row j hj]; rfl
          · simp at ha; rw [if_pos ha]; rfl
      · have := (List.mem_replicate.1 hr).2; subst this; simp only [List.mem_singleton] at hy; subst hy; simp
    · rw [if_neg e1] at ho
      have := shut_set (o := fresh σ) (x := ⟨.own, 1, List.replicate m [.bool false]⟩) h.shut (by rw [rowB_false]; exact rowB_plain _ _) o x ho hx r hr y hy
      exact within_set this
theorem Mat.more {σ : Sto} {q m : Nat} {ids : List Nat} {f : Nat → Nat → Bool} (h : Mat σ q ids m [] f) {x : Ob} (hx : Plain x.cells) : Mat (setOb σ (fresh σ) x) q ids m [] f := by
  have hq := lt_fresh h.outer
  refine ⟨by rw [look_setOb, if_neg (by omega)]; exact h.outer, h.nd, h.nq, fun j hj => ?_, shut_set h.shut hx⟩
  have := lt_fresh (h.row j hj)
  rw [look_setOb, if_neg (by omega)]; exact h.row j hj
theorem Mat.congr {σ : Sto} {q m : Nat} {ids : List Nat} {f f' : Nat → Nat → Bool} (h : Mat σ q ids m [] f) (e : ∀ i k, i < ids.length → k < m → f i k = f' i k) : Mat σ q ids m [] f' := by
  refine ⟨h.outer, h.nd, h.nq, fun j hj => ?_, h.shut⟩
  rw [h.row j hj]
  congr 2
  exact List.map_congr_left fun k hk => by rw [e j k hj (List.mem_range.1 hk)]
theorem Mat.put {σ : Sto} {q m i k : Nat} {ids : List Nat} {f : Nat → Nat → Bool} (h : Mat σ q ids m [] f) (hi : i < ids.length) (hk : k < m) :
    Mat (setOb σ ids[i] ⟨.own, 1, (rowB m (f i)).set k [.bool true]⟩) q ids m [] fun a b => f a b || (decide (a = i) && decide (b = k)) := by
  have hm := List.getElem_mem hi
  refine ⟨?_, h.nd, h.nq, fun j hj => ?_, ?_⟩
  · rw [look_setOb, if_neg (fun e => h.nq (by rw [e]; exact hm))]; exact h.outer
  · rw [look_setOb]
    by_cases e : j = i
    · subst e; rw [if_pos rfl, rowB_set hk]; simp
    · rw [if_neg, h.row j hj]
      · simp [e]
      · exact fun e2 => e ((List.getElem_inj h.nd).1 e2)
  · rw [rowB_set hk]; exact shut_set h.shut (rowB_plain _ _)
theorem E.mapO_ext {α : Type} {f : α → Option α} : ∀ {l r : List α}, l.length = r.length → (∀ j (h1 : j < l.length) (h2 : j < r.length), f l[j] = some r[j]) → mapO f l = some r
  | [], [], _, _ => by simp
  | a :: l, b :: r, hl, h => by
    have h0 := h 0 (by simp) (by simp)
    have ih := mapO_ext (f := f) (l := l) (r := r) (by simpa using hl) fun j h1 h2 => h (j + 1) (by simpa using h1) (by simpa using h2)
    simp only [List.getElem_cons_zero] at h0
    rw [mapO_cons, h0, ih]
theorem E.toD_refM {σ : Sto} {o n k es : Nat} {st : St} {l l' : List (List V)} (h : E.look σ o = some ⟨st, es, l⟩) (hs : st ≠ .dead) (he : es ≠ 0) (hl : l.length = n) (hd : mapO (mapO (toD σ k)) l = some l') : toD σ (k + 1) (.ref o 0 n) = some (.dat l') := by
  show (match getOb σ o with | some x => if 0 + n ≤ x.cells.length ∧ x.es ≠ 0 then (mapO (mapO (toD σ k)) ((x.cells.drop 0).take n)).map V.dat else none | none => none) = _
  simp only [getOb, h, hs, if_false]
  subst hl
  simp [he, List.take_of_length_le, hd]
theorem Mat.data {σ : Sto} {q m n : Nat} {ids : List Nat} {f : Nat → Nat → Bool} (h : Mat σ q ids m [] f) (hn : ids.length = n) : toD σ 12 (.ref q 0 n) = some (relV n m f) := by
  subst hn
  refine E.toD_refM h.outer (by simp) (by simp) (by simp) (E.mapO_ext (by simp) fun j h1 h2 => ?_)
  have hj : j < ids.length := by simpa using h1
  simp only [List.append_nil, List.getElem_map, List.getElem_range, mapO_cons, mapO_nil]
  rw [E.toD_refM (h.row j hj) (by simp) (by simp) (by simp) (mapO_id fun r hr => ?_)]
  obtain ⟨k, _, rfl⟩ := List.mem_map.1 hr
  simp
theorem E.setOb_setOb (σ : Sto) (o : Nat) (x y : Ob) : setOb (setOb σ o x) o y = setOb σ o y := by simp [setOb, List.filter_cons]
set_option maxHeartbeats 4000000 in
theorem couple_related {a b : List Part} {may : List (Int × Int)} (la : a.length ≤ 1000) (lb : b.length ≤ 1000) (lm : may.length ≤ 1000) :
    CallD Tryz.prog F.couple_related [pl a, pl b, mayV may] (· = relV a.length b.length (relB may)) := by
  refine callD_by F.couple_related_ok ?_
  unfold F.couple_related_c
  simp
  rw [if_pos ⟨by omega, by omega⟩]
  simp
  refine wm_loop (fun g : List Nat × Sto => ((((((Sl.empty.set 16 (.int .i64 g.1.length)).set 15 (.int .i64 a.length)).set 7 (.ref 0 0 a.length)).set 2 (mayV may)).set 1 (pl b)).set 0 (pl a), g.2))
    (fun g => g.1.length ≤ a.length ∧ Mat g.2 0 g.1 b.length (List.replicate (a.length - g.1.length) [.nils]) fun _ _ => false) (fun g => a.length - g.1.length) ([], [(0, ⟨.own, 1, List.replicate a.length [.nils]⟩)]) ⟨by simp, ⟨by simp [E.look], by simp, by simp, fun j hj => by simp at hj, shut_of fun p hp r hr y hy => ?_⟩⟩ ?_ ?_
  · simp only [List.mem_singleton] at hp; subst hp
    have := (List.mem_replicate.1 hr).2; subst this
    simp only [List.mem_singleton] at hy; subst hy; simp
  · refine weak_obs ?_ (by simp) (by repeat (first | exact sin_empty | refine sin_set (by simp) ?_)) (fun p hp r hr y hy => ?_)
    · repeat (first | exact sub_empty | refine sub_set (by simp) ?_)
    · simp only [List.mem_singleton] at hp; subst hp
      have := (List.mem_replicate.1 hr).2; subst this
      simp only [List.mem_singleton] at hy; subst hy; simp
  rintro ⟨ids, σ⟩ ⟨hi, hm⟩
  dsimp only at hi hm
  have h0 := hm.outer
  have hf : ¬ 0 = fresh σ := by have := lt_fresh h0; omega
  by_cases h1 : ids.length < a.length
  · obtain ⟨k, hk⟩ : ∃ k, a.length - ids.length = k + 1 := ⟨a.length - ids.length - 1, by omega⟩
    rw [hk] at hm h0
    have hc : ((ids.map fun o => [V.ref o 0 b.length]) ++ List.replicate (k + 1) [V.nils])[ids.length]? = some [V.nils] := by
      rw [List.getElem?_append_right (by simp)]; simp [List.replicate_succ]
    simp [h1]
    rw [if_pos (by omega)]
    simp [hf, h0, hc, h1]
    rw [wrap64 (by omega) (by omega)]
    have ha := hm.add
    refine ⟨(ids ++ [fresh σ], _), ⟨by simp; omega, ?_⟩, by simp; omega, weak_gen ?_ (Has.refl _) (by simp) ?_ ?_⟩
    · have e : a.length - (ids ++ [fresh σ]).length = k := by simp; omega
      rw [e]; exact ha
    · skip
      repeat (first | exact sub_empty | refine sub_set (by simp) ?_)
    · repeat (first | exact sin_empty | refine sin_set (by simp) ?_)
    · exact ha.shut
  · have hl : ids.length = a.length := by omega
    rw [hl] at hm
    simp only [Nat.sub_self, List.replicate_zero] at hm
    clear h0 hf
    simp [hl]
    refine wm_loop (fun g : Nat × List Nat × Sto => ((((((Sl.empty.set 28 (.int .i64 g.1)).set 27 (.int .i64 may.length)).set 26 (mayV may)).set 7 (.ref 0 0 a.length)).set 1 (pl b)).set 0 (pl a), g.2.2))
      (fun g => g.1 ≤ may.length ∧ g.2.1.length = a.length ∧ Mat g.2.2 0 g.2.1 b.length [] (relB (may.take g.1))) (fun g => may.length - g.1) (0, ids, σ) ⟨by simp, hl, hm.congr fun i k _ _ => by simp [relB]⟩ ?_ ?_
    · refine weak_gen ?_ (Has.refl _) (by simp) ?_ hm.shut
      · repeat (first | exact sub_empty | refine sub_set (by simp) ?_)
      · repeat (first | exact sin_empty | refine sin_set (by first | (simp; done) | (simp only [within_ref]; rw [hm.outer]; rfl)) ?_)
    clear hm h1 hl hi ids σ
    rintro ⟨i, ids, σ⟩ ⟨hi, hl, hm⟩
    dsimp only at hi hl hm
    by_cases h1 : i < may.length
    · have h0 := hm.outer
      have hf : ¬ 0 = fresh σ := by have := lt_fresh h0; omega
      have hs := relB_snoc (may.take i) may[i]
      rw [← List.take_succ_eq_append_getElem h1] at hs
      generalize hmi : may[i] = m at hs
      have hm2 := hm.more (x := ⟨.own, 2, [mayC m]⟩) (by intro r hr y hy p; simp [mayC] at hr; subst hr; simp at hy; rcases hy with rfl | rfl <;> simp)
      have next : ∀ {σ' : Sto} {S' : Sl}, Mat σ' 0 ids b.length [] (relB (may.take (i + 1))) → S' 28 = some (.int .i64 ((i : Int) + 1)) → S' 27 = some (.int .i64 may.length) → S' 26 = some (mayV may) → S' 7 = some (.ref 0 0 a.length) → S' 1 = some (pl b) → S' 0 = some (pl a) →
          Again [] (fun g : Nat × List Nat × Sto => ((((((Sl.empty.set 28 (.int .i64 g.1)).set 27 (.int .i64 may.length)).set 26 (mayV may)).set 7 (.ref 0 0 a.length)).set 1 (pl b)).set 0 (pl a), g.2.2)) (fun g => g.1 ≤ may.length ∧ g.2.1.length = a.length ∧ Mat g.2.2 0 g.2.1 b.length [] (relB (may.take g.1))) (fun g => may.length - g.1) (i, ids, σ) S' σ' := by
        intro σ' S' hm' e1 e2 e3 e4 e5 e6
        refine ⟨(i + 1, ids, σ'), ⟨h1, hl, hm'⟩, by dsimp only; omega, weak_gen ?_ (Has.refl _) (by simp) ?_ hm'.shut⟩
        · exact sub_set e6 (sub_set e5 (sub_set e4 (sub_set e3 (sub_set e2 (sub_set e1 sub_empty)))))
        · repeat (first | exact sin_empty | refine sin_set (by first | (simp; done) | (simp only [within_ref]; rw [hm'.outer]; rfl)) ?_)
      by_cases c : 0 ≤ m.1 ∧ m.1 < a.length ∧ 0 ≤ m.2 ∧ m.2 < b.length
      · obtain ⟨c1, c2, c3, c4⟩ := c
        obtain ⟨A, eA⟩ := Int.eq_ofNat_of_zero_le c1
        obtain ⟨B, eB⟩ := Int.eq_ofNat_of_zero_le c3
        have lA : A < ids.length := by omega
        have lB : B < b.length := by omega
        have hp := (hm2.put lA lB).congr (f' := relB (may.take (i + 1))) fun x y _ _ => by rw [hs, eA, eB]; congr 2 <;> (congr 1; apply propext; omega)
        have hfa : ¬ ids[A] = fresh σ := by have := lt_fresh (hm.row A lA); omega
        have hra := hm.row A lA
        have cA : (A : Int) < a.length := by omega
        have cB : (B : Int) < b.length := by omega
        have lA' : A < a.length := by omega
        have hcell : ((ids.map fun o => [V.ref o 0 b.length]) ++ [])[A]? = some [V.ref ids[A] 0 b.length] := by simp [lA]
        simp at hcell h0
        simp [mayC, eA, eB] at hp
        simp [h1, hmi, mayC, eA, eB, E.setOb_setOb, cA, cB, hf, h0, hcell, hfa, hra, lA, lA', lB, rowB_get]
        rw [wrap64 (by omega) (by omega)]
        skip
        exact next hp (by simp) (by simp) (by simp) (by simp) (by simp) (by simp)
      · have hm' := hm2.congr (f' := relB (may.take (i + 1))) fun x y hx hy => by
          rw [hs]
          have : (decide (m.1 = (x : Int)) && decide (m.2 = (y : Int))) = false := by
            rw [Bool.and_eq_false_iff, decide_eq_false_iff_not, decide_eq_false_iff_not]; omega
          rw [this]; simp
        simp [h1, hmi, mayC, E.setOb_setOb]
        by_cases c1 : 0 ≤ m.1
        · by_cases c2 : m.1 < a.length
          · by_cases c3 : 0 ≤ m.2
            · have c4 : ¬ m.2 < b.length := fun h => c ⟨c1, c2, c3, h⟩
              simp [c1, c2, c3, c4]
              rw [wrap64 (by omega) (by omega)]
              exact next hm' (by simp) (by simp) (by simp) (by simp) (by simp) (by simp)
            · simp [c1, c2, c3]
              rw [wrap64 (by omega) (by omega)]
              exact next hm' (by simp) (by simp) (by simp) (by simp) (by simp) (by simp)
          · simp [c1, c2]
            rw [wrap64 (by omega) (by omega)]
            exact next hm' (by simp) (by simp) (by simp) (by simp) (by simp) (by simp)
        · simp [c1]
          rw [wrap64 (by omega) (by omega)]
          exact next hm' (by simp) (by simp) (by simp) (by simp) (by simp) (by simp)
    · have hil : i = may.length := by omega
      subst hil
      rw [List.take_length] at hm
      simp [h1]
      rw [hm.data hl]
/-! Closures over whole numbers. -/
abbrev intC (x : Int) : List V := [.int .i64 x]
abbrev il (l : List Int) : V := .dat (l.map intC)
section
variable {p : Int → Bool} {l : List Int} {f : Nat} {cap : List V} {σ : Sto}
theorem index_int (hl : l.length < 9223372036854775808) (hs : Shut σ) (hcap : (V.clo f cap).within (fun q => (E.look σ q).isSome) = true) (h : ∀ a ∈ l, CallX Tryz.prog f (.int .i64 a :: cap) σ (fun v s => v = .bool (p a) ∧ s = σ)) :
    CallX Tryz.prog F.slices_IndexFunc_Sint_int [il l, .clo f cap] σ (fun v s => v = .int .i64 (fidx p l) ∧ s = σ) := by
  refine callX_by F.slices_IndexFunc_Sint_int_ok ?_
  unfold F.slices_IndexFunc_Sint_int_c
  simp
  refine wm_loop (fun g : Nat => ((((Sl.empty.set 8 (.int .i64 g)).set 7 (.int .i64 l.length)).set 1 (.clo f cap)).set 0 (il l), σ)) (fun g => g ≤ l.length ∧ ∀ j (hj : j < l.length), j < g → p l[j] = false) (fun g => l.length - g) 0 ⟨by omega, fun j hj h => by omega⟩ ?_ ?_
  · refine weak_keep ?_ (Has.refl _) (fun o ho => key_look ho) ?_ hs
    · repeat (first | exact sub_empty | refine sub_set (by simp) ?_)
    · repeat (first | exact sin_empty | refine sin_set (by first | exact hcap | simp) ?_)
  rintro i ⟨hi, hb⟩
  by_cases h1 : i < l.length
  · simp [h1]
    refine ⟨_, _, ⟨rfl, rfl⟩, callK_X (h _ (List.getElem_mem h1)) ?_⟩
    rintro r s ⟨rfl, rfl⟩
    cases hp : p l[i] with
    | true =>
      simp
      exact doneX_same (by simp) (by simp; rfl) (by simp [fidx_at h1 hp hb]) (Has.refl _) hs (by simp)
    | false =>
      simp
      rw [wrap64 (by omega) (by omega)]
      refine ⟨i + 1, ⟨by omega, fun j hj hji => ?_⟩, by dsimp only; omega, ?_⟩
      · by_cases e : j = i
        · subst e; exact hp
        · exact hb j hj (by omega)
      · refine weak_keep ?_ (Has.refl _) (fun o ho => key_look ho) ?_ hs
        · repeat (first | exact sub_empty | refine sub_set (by simp) ?_)
        · repeat (first | exact sin_empty | refine sin_set (by first | exact hcap | simp) ?_)
  · simp [h1]
    exact doneX_same (by simp) (by simp; rfl) (by simp [fidx_none (fun j hj => hb j hj (by omega))]) (Has.refl _) hs (by simp)
theorem contains_int (hl : l.length < 9223372036854775808) (hs : Shut σ) (hcap : (V.clo f cap).within (fun q => (E.look σ q).isSome) = true) (h : ∀ a ∈ l, CallX Tryz.prog f (.int .i64 a :: cap) σ (fun v s => v = .bool (p a) ∧ s = σ)) :
    CallX Tryz.prog F.slices_ContainsFunc_Sint_int [il l, .clo f cap] σ (fun v s => v = .bool (l.any p) ∧ s = σ) := by
  refine callX_by F.slices_ContainsFunc_Sint_int_ok ?_
  unfold F.slices_ContainsFunc_Sint_int_c
  simp
  refine callK_X (index_int hl hs hcap h) ?_
  rintro r s ⟨rfl, rfl⟩
  simp
  exact doneX_same (by simp) (by simp; rfl) (by simp [fidx_nonneg]) (Has.refl _) hs (by simp)
end
end Go.Proofs.YtnneehniendnfaaGreat

namespace Go.Proofs.YtnneehniendnfaaGreat
open Go Go.Proofs Go.Proofs.YtnneehniendnfaaGreat.E
set_option linter.unusedSimpArgs false
set_option linter.unusedVariables false
def setAt (n : Nat) (set : List Int) (i : Nat) : Bool := match set[i]? with
  | some s => decide (0 ≤ s ∧ s < n) && (decide (i = 0) || match set[i - 1]? with | some r => decide (r < s) | none => false)
  | none => true
def setOK (n : Nat) (set : List Int) : Bool := (List.range set.length).all (setAt n set)
theorem setAt_eq {n : Nat} {set : List Int} {i : Nat} (h : i < set.length) : setAt n set i = (decide (0 ≤ set[i] ∧ set[i] < n) && (decide (i = 0) || decide (set[i - 1]'(by omega) < set[i]))) := by
  unfold setAt
  rw [List.getElem?_eq_getElem h, List.getElem?_eq_getElem (show i - 1 < set.length by omega)]
theorem setOK_false {n : Nat} {set : List Int} {i : Nat} (h : i < set.length) (hf : setAt n set i = false) : setOK n set = false := by
  unfold setOK; rw [List.all_eq_false]
  exact ⟨i, List.mem_range.2 h, by simp [hf]⟩
theorem setOK_in {n : Nat} {set : List Int} (h : setOK n set = true) : ∀ s ∈ set, 0 ≤ s ∧ s < n := by
  intro s hs
  obtain ⟨i, hi, rfl⟩ := List.getElem_of_mem hs
  unfold setOK at h
  rw [List.all_eq_true] at h
  have := h i (List.mem_range.2 hi)
  rw [setAt_eq hi] at this
  simp at this; omega
def leftQ (a : List Part) (set : List Int) : Rat := sumBy (fun s => wq a s.toNat) set
def nearB (may : List (Int × Int)) (set : List Int) (k : Nat) : Bool := set.any fun s => relB may s.toNat k
def nearQ (b : List Part) (may : List (Int × Int)) (set : List Int) (k : Nat) : Rat := if nearB may set k then wq b k else 0
def rightQ (b : List Part) (may : List (Int × Int)) (set : List Int) : Rat := sumBy (nearQ b may set) (List.range b.length)
def blocksP (a b : List Part) (may : List (Int × Int)) (set : List Int) : Bool := rightP a && rightP b && setOK a.length set && decide (rightQ b may set < leftQ a set)
theorem left_fit {a : List Part} {set : List Int} (oa : ∀ p ∈ a, p.Ok 1000000) (hl : set.length ≤ 20) : Fits (leftQ a set) (2 ^ 31) := by
  refine (sumBy_fits (k := 1000000) _ fun s _ => wq_fits oa _).mono ?_
  have : set.length * (1000000 + 1) ≤ 20 * (1000000 + 1) := Nat.mul_le_mul_right _ hl
  omega
theorem near_fit {b : List Part} {may : List (Int × Int)} {set : List Int} (ob : ∀ p ∈ b, p.Ok 1000000) {n : Nat} (hl : n ≤ 1000) : Fits (sumBy (nearQ b may set) (List.range n)) (2 ^ 31) := by
  refine (sumBy_fits (k := 1000000) _ fun k _ => ?_).mono ?_
  · unfold nearQ; split
    · exact wq_fits ob _
    · exact fits_zero.mono (by omega)
  · have : (List.range n).length * (1000000 + 1) ≤ 1000 * (1000000 + 1) := Nat.mul_le_mul_right _ (by simpa using hl)
    omega
theorem cmpR_gt {a b : Rat} : 0 < cmpR a b ↔ b < a := by
  unfold cmpR
  split
  · exact ⟨fun h => by omega, fun h => by grind⟩
  · split
    · rename_i h; exact ⟨fun _ => h, fun _ => by omega⟩
    · rename_i h; exact ⟨fun h => by omega, fun h' => (h h').elim⟩
theorem couple_Blocks_1 {σ : Sto} {q r n m s k : Nat} {f : Nat → Nat → Bool} (hq : E.look σ q = some ⟨.own, 1, [[relV n m f]]⟩) (hr : E.look σ r = some ⟨.own, 1, [[.int .i64 k]]⟩) (hs : Shut σ) (h1 : s < n) (h2 : k < m) :
    CallX Tryz.prog F.couple_Blocks_1 [.int .i64 s, .ptr q 0 0, .ptr r 0 0] σ (fun v s' => v = .bool (f s k) ∧ s' = σ) := by
  refine callX_by F.couple_Blocks_1_ok ?_
  unfold F.couple_Blocks_1_c
  simp [hq, hr, relV, h1, h2, rowB]
  exact doneX_same (by simp) (by simp; rfl) (by simp) (Has.refl _) hs (by simp)
set_option maxHeartbeats 4000000 in
theorem couple_Blocks {a b : List Part} {may : List (Int × Int)} {set : List Int} (la : a.length ≤ 1000) (lb : b.length ≤ 1000) (lm : may.length ≤ 1000) (ls : set.length ≤ 20) (oa : ∀ p ∈ a, p.Ok 1000000) (ob : ∀ p ∈ b, p.Ok 1000000) :
    CallD Tryz.prog F.couple_Blocks [pl a, pl b, mayV may, il set] (· = .bool (blocksP a b may set)) := by
  refine callD_by F.couple_Blocks_ok ?_
  unfold F.couple_Blocks_c blocksP
  simp
  refine callK_of (couple_Right (by omega) oa) (by simp) ?_
  cases hra : rightP a with
  | false => simp
  | true =>
  simp
  refine callK_of (couple_Right (by omega) ob) (by simp) ?_
  cases hrb : rightP b with
  | false => simp
  | true =>
  simp
  refine callK_of (couple_related la lb lm) (by simp) ?_
  generalize hR : relV a.length b.length (relB may) = R
  have hRw : ∀ p, R.within p = true := fun p => by rw [← hR]; simp [relV]
  have hR1 : R.cells = [R] := by rw [← hR]; rfl
  have hRt : ∀ l, R ≠ .tup l := fun l => by rw [← hR]; simp [relV]
  subst hR
  simp [relV, setOb, List.filter_cons]
  refine callK_of ratio_Zero (by simp) ?_
  simp [setOb, List.filter_cons]
  refine callK_of ratio_Zero (by simp) ?_
  simp [setOb, List.filter_cons, ratV, raw_v]
  refine wm_loop (fun g : Nat => (((((((((Sl.empty.set 31 (.int .i64 g)).set 30 (.int .i64 set.length)).set 29 (il set)).set 11 (.ptr 2 0 0)).set 10 (.ptr 1 0 0)).set 9 (.ptr 0 0 0)).set 3 (il set)).set 1 (pl b)).set 0 (pl a),
      [(0, ⟨.own, 1, [[relV a.length b.length (relB may)]]⟩), (1, ⟨.own, 3, [(rawOf (leftQ a (set.take g))).c]⟩), (2, ⟨.own, 3, [(rawOf 0).c]⟩)]))
    (fun g => g ≤ set.length ∧ ∀ j, j < g → setAt a.length set j = true) (fun g => set.length - g) 0 ⟨by omega, by omega⟩ ?_ ?_
  · refine weak_obs ?_ (by simp [leftQ, sumBy, relV]) (by repeat (first | exact sin_empty | refine sin_set (by simp) ?_)) ?_
    · repeat (first | exact sub_empty | refine sub_set (by simp) ?_)
    · simp [relV]; exact ⟨fun y hy => rawc_within _ y hy, fun y hy => rawc_within _ y hy⟩
  rintro i ⟨hi, hb⟩
  by_cases h1 : i < set.length
  · have hbad := setOK_false (n := a.length) h1
    rw [setAt_eq h1] at hbad
    simp [h1, relV]
    by_cases c1 : set[i] < 0
    · have := hbad (by rw [Bool.and_eq_false_iff]; left; rw [decide_eq_false_iff_not]; omega)
      simp [c1, this]
    by_cases c2 : ¬ set[i] < a.length
    · have := hbad (by rw [Bool.and_eq_false_iff]; left; rw [decide_eq_false_iff_not]; omega)
      have c2' : (a.length : Int) ≤ set[i] := by omega
      simp [c1, c2', this]
    have c2 := Decidable.not_not.1 c2
    have c2' : ¬ (a.length : Int) ≤ set[i] := by omega
    obtain ⟨A, eA⟩ := Int.eq_ofNat_of_zero_le (show 0 ≤ set[i] by omega)
    have lA : A < a.length := by omega
    have okA := oa _ (List.getElem_mem lA)
    have hst := sumBy_take (f := fun s : Int => wq a s.toNat) h1
    have hsum : Fits (leftQ a (set.take i)) (2 ^ 31) := left_fit oa (by rw [List.length_take]; omega)
    have hq : wq a set[i].toNat = a[A].w.q := by rw [eA]; exact wq_eq lA
    rw [hq] at hst
    have hst' : leftQ a (set.take (i + 1)) = leftQ a (set.take i) + a[A].w.q := hst
    have rest : ∀ S : Sl, (S 0 = some (pl a) ∧ S 1 = some (pl b) ∧ S 3 = some (il set) ∧ S 9 = some (.ptr 0 0 0) ∧ S 10 = some (.ptr 1 0 0) ∧ S 11 = some (.ptr 2 0 0) ∧ S 29 = some (il set) ∧ S 30 = some (.int .i64 set.length) ∧ S 31 = some (.int .i64 ((i : Int) + 1))) → setAt a.length set i = true →
        Again [] (fun g : Nat => (((((((((Sl.empty.set 31 (.int .i64 g)).set 30 (.int .i64 set.length)).set 29 (il set)).set 11 (.ptr 2 0 0)).set 10 (.ptr 1 0 0)).set 9 (.ptr 0 0 0)).set 3 (il set)).set 1 (pl b)).set 0 (pl a),
          [(0, ⟨.own, 1, [[relV a.length b.length (relB may)]]⟩), (1, ⟨.own, 3, [(rawOf (leftQ a (set.take g))).c]⟩), (2, ⟨.own, 3, [(rawOf 0).c]⟩)])) (fun g => g ≤ set.length ∧ ∀ j, j < g → setAt a.length set j = true) (fun g => set.length - g) i S
          [(1, ⟨.own, 3, [(rawOf (leftQ a (set.take (i + 1)))).c]⟩), (0, ⟨.own, 1, [[relV a.length b.length (relB may)]]⟩), (2, ⟨.own, 3, [(rawOf 0).c]⟩)] := by
      rintro S ⟨s0, s1, s2, s3, s4, s5, s6, s7, s8⟩ hset
      refine ⟨i + 1, ⟨h1, fun j hj => ?_⟩, by dsimp only; omega, ?_⟩
      · by_cases e : j = i
        · subst e; exact hset
        · exact hb j (by omega)
      · refine weak_obs ?_ (by simp [relV]) (by repeat (first | exact sin_empty | refine sin_set (by simp) ?_)) ?_
        · exact sub_set s0 (sub_set s1 (sub_set s2 (sub_set s3 (sub_set s4 (sub_set s5 (sub_set s6 (sub_set s7 (sub_set s8 sub_empty))))))))
        · simp [relV]; exact ⟨fun y hy => rawc_within _ y hy, fun y hy => rawc_within _ y hy⟩
    by_cases i0 : i = 0
    · subst i0
      have hset : setAt a.length set 0 = true := by rw [setAt_eq h1]; simp; omega
      have c1' : ¬ (A : Int) < 0 := by omega
      have c2'' : ¬ (a.length : Int) ≤ A := by omega
      simp [eA, c1', c2'', lA]
      refine callFK_of (ratio_Add (rawOf_ok hsum) (Raw.Ok.mono okA.w (by omega))) (by simp [toD_rawc, raw_v]) ?_
      simp [ratV, raw_v, rawOf_q, setOb, List.filter_cons]
      have hst' : leftQ a (set.take 1) = leftQ a [] + a[A].w.q := by simpa using hst'
      rw [← hst', wrap64 (by omega) (by omega)]
      have := rest
      simp [relV] at this
      exact this _ (by simp) (by simp) (by simp) (by simp) (by simp) (by simp) (by simp) (by simp) (by simp) hset
    · have ip : 0 < i := by omega
      have c1' : ¬ (A : Int) < 0 := by omega
      have c2'' : ¬ (a.length : Int) ≤ A := by omega
      have li : i - 1 < set.length := by omega
      simp [eA, c1', c2'', lA, ip, i0]
      rw [wrap64 (by omega) (by omega)]
      have e1 : ((i : Int) - 1).toNat = i - 1 := by omega
      have e2 : (0 : Int) ≤ (i : Int) - 1 := by omega
      have e3 : (1 : Int) ≤ i := by omega
      simp [e1, e2, e3, li]
      by_cases c3 : (A : Int) ≤ set[i - 1]
      · have := hbad (by rw [Bool.and_eq_false_iff]; right; simp; omega)
        have c3' : ¬ set[i - 1] < (A : Int) := by omega
        simp [c3, c3', this]
      · have c3' : set[i - 1] < (A : Int) := by omega
        have hset : setAt a.length set i = true := by rw [setAt_eq h1]; simp; omega
        simp [c3, c3', lA]
        refine callFK_of (ratio_Add (rawOf_ok hsum) (Raw.Ok.mono okA.w (by omega))) (by simp [toD_rawc, raw_v]) ?_
        simp [ratV, raw_v, rawOf_q, setOb, List.filter_cons]
        rw [← hst', wrap64 (by omega) (by omega)]
        have := rest
        simp [relV] at this
        exact this _ (by simp) (by simp) (by simp) (by simp) (by simp) (by simp) (by simp) (by simp) (by simp) hset
  · have hil : i = set.length := by omega
    subst hil
    have hok : setOK a.length set = true := by
      unfold setOK; rw [List.all_eq_true]; exact fun j hj => hb j (List.mem_range.1 hj)
    have hin := setOK_in hok
    simp [h1, hok]
    clear h1 hb hi
    refine wm_loop (fun g : Nat => (((((((Sl.empty.set 67 (.int .i64 g)).set 66 (.int .i64 b.length)).set 11 (.ptr 2 0 0)).set 10 (.ptr 1 0 0)).set 9 (.ptr 0 0 0)).set 3 (il set)).set 1 (pl b),
        [(0, ⟨.own, 1, [[relV a.length b.length (relB may)]]⟩), (1, ⟨.own, 3, [(rawOf (leftQ a set)).c]⟩), (2, ⟨.own, 3, [(rawOf (sumBy (nearQ b may set) (List.range g))).c]⟩)]))
      (fun g => g ≤ b.length) (fun g => b.length - g) 0 (by omega) ?_ ?_
    · refine weak_obs ?_ (by simp [sumBy, relV]) (by repeat (first | exact sin_empty | refine sin_set (by simp) ?_)) ?_
      · repeat (first | exact sub_empty | refine sub_set (by simp) ?_)
      · simp [relV]; exact ⟨fun y hy => rawc_within _ y hy, fun y hy => rawc_within _ y hy⟩
    intro k hk
    have hsum : Fits (sumBy (nearQ b may set) (List.range k)) (2 ^ 31) := near_fit ob (by omega)
    by_cases h1 : k < b.length
    · have okB := ob _ (List.getElem_mem h1)
      have hst : sumBy (nearQ b may set) (List.range (k + 1)) = sumBy (nearQ b may set) (List.range k) + nearQ b may set k := by rw [List.range_succ, sumBy_snoc]
      simp [h1, setOb, List.filter_cons]
      refine callK_X (contains_int (p := fun s => relB may s.toNat k) (by omega) (shut_of ?_) (by simp) fun s hs => ?_) ?_
      · simp [relV]; exact ⟨fun y hy => rawc_within _ y hy, fun y hy => rawc_within _ y hy⟩
      · have hs2 := hin s hs
        obtain ⟨A, rfl⟩ := Int.eq_ofNat_of_zero_le hs2.1
        exact couple_Blocks_1 (n := a.length) (m := b.length) (by simp) (by simp) (shut_of (by simp [relV]; exact ⟨fun y hy => rawc_within _ y hy, fun y hy => rawc_within _ y hy⟩)) (by omega) h1
      rintro r s ⟨rfl, rfl⟩
      cases hn : set.any fun s => relB may s.toNat k with
      | false =>
        have e0 : nearQ b may set k = 0 := by unfold nearQ nearB; rw [hn]; rfl
        rw [e0, Rat.add_zero] at hst
        simp
        rw [wrap64 (by omega) (by omega)]
        refine ⟨k + 1, h1, by dsimp only; omega, ?_⟩
        dsimp only
        rw [hst]
        refine weak_obs ?_ (by simp) (by repeat (first | exact sin_empty | refine sin_set (by simp) ?_)) ?_
        · repeat (first | exact sub_empty | refine sub_set (by simp) ?_)
        · simp [relV]; exact ⟨fun y hy => rawc_within _ y hy, fun y hy => rawc_within _ y hy⟩
      | true =>
        have e0 : nearQ b may set k = b[k].w.q := by unfold nearQ nearB; rw [hn, if_pos rfl]; exact wq_eq h1
        rw [e0] at hst
        simp [h1]
        refine callFK_of (ratio_Add (rawOf_ok hsum) (Raw.Ok.mono okB.w (by omega))) (by simp [toD_rawc, raw_v]) ?_
        simp [ratV, raw_v, rawOf_q, setOb, List.filter_cons]
        rw [← hst, wrap64 (by omega) (by omega)]
        refine ⟨k + 1, h1, by dsimp only; omega, ?_⟩
        refine weak_obs ?_ (by simp) (by repeat (first | exact sin_empty | refine sin_set (by simp) ?_)) ?_
        · repeat (first | exact sub_empty | refine sub_set (by simp) ?_)
        · simp [relV]; exact ⟨fun y hy => rawc_within _ y hy, fun y hy => rawc_within _ y hy⟩
    · have hil : k = b.length := by omega
      subst hil
      simp [h1]
      refine callK_of (ratio_Compare (rawOf_ok ((left_fit oa ls).mono (by omega))) (rawOf_ok (hsum.mono (by omega)))) (by simp [toD_rawc, raw_v]) ?_
      rw [rawOf_q, rawOf_q]
      simp [cmpR_gt, rightQ]
      exact decide_eq_decide.2 Iff.rfl
end Go.Proofs.YtnneehniendnfaaGreat

namespace Go.Proofs.YtnneehniendnfaaGreat
open Go Go.Proofs Go.Proofs.YtnneehniendnfaaGreat.E
set_option linter.unusedSimpArgs false
set_option linter.unusedVariables false
def hit (m : Int × Int) (k : Nat) (n : Int) : Bool := decide (m.1 = n) && decide (m.2 = (k : Int))
def nearC (may : List (Int × Int)) (set : List Int) (k : Nat) : Bool := may.any fun m => set.any (hit m k)
theorem nearC_eq {may : List (Int × Int)} {set : List Int} {k : Nat} (h : ∀ s ∈ set, 0 ≤ s) : nearC may set k = nearB may set k := by
  rw [Bool.eq_iff_iff]
  simp only [nearC, nearB, relB, hit, List.any_eq_true, Bool.and_eq_true, decide_eq_true_eq]
  constructor
  · rintro ⟨m, hm, s, hs, h1, h2⟩
    have := h s hs
    exact ⟨s, hs, m, hm, by omega, h2⟩
  · rintro ⟨s, hs, m, hm, h1, h2⟩
    have := h s hs
    exact ⟨m, hm, s, hs, by omega, h2⟩
theorem any_take {α : Type} {p : α → Bool} {l : List α} {i : Nat} (h : i < l.length) : (l.take (i + 1)).any p = ((l.take i).any p || p l[i]) := by
  rw [List.take_succ_eq_append_getElem h, List.any_append, List.any_cons, List.any_nil, Bool.or_false]
set_option maxHeartbeats 4000000 in
theorem ref35_Blocks {a b : List Part} {may : List (Int × Int)} {set : List Int} (la : a.length ≤ 1000) (lb : b.length ≤ 1000) (lm : may.length ≤ 1000) (ls : set.length ≤ 20) (oa : ∀ p ∈ a, p.Ok 1000000) (ob : ∀ p ∈ b, p.Ok 1000000) :
    CallD Tryz.prog F.ref35_Blocks [pl a, pl b, mayV may, il set] (· = .bool (blocksP a b may set)) := by
  refine callD_by F.ref35_Blocks_ok ?_
  unfold F.ref35_Blocks_c blocksP
  simp
  refine callK_of (ref35_Right (by omega) oa) (by simp) ?_
  cases hra : rightP a with
  | false => simp
  | true =>
  simp
  refine callK_of (ref35_Right (by omega) ob) (by simp) ?_
  cases hrb : rightP b with
  | false => simp
  | true =>
  simp
  refine callK_of ref02_Zero (by simp) ?_
  simp [setOb, List.filter_cons, ratV, raw_v]
  refine wm_loop (fun g : Nat => ((((((((Sl.empty.set 30 (.int .i64 g)).set 29 (.int .i64 set.length)).set 28 (il set)).set 9 (.ptr 0 0 0)).set 3 (il set)).set 2 (mayV may)).set 1 (pl b)).set 0 (pl a),
      [(0, ⟨.own, 3, [(rawOf (leftQ a (set.take g))).c]⟩)]))
    (fun g => g ≤ set.length ∧ ∀ j, j < g → setAt a.length set j = true) (fun g => set.length - g) 0 ⟨by omega, by omega⟩ ?_ ?_
  · refine weak_obs ?_ (by simp [leftQ, sumBy]) (by repeat (first | exact sin_empty | refine sin_set (by simp) ?_)) ?_
    · repeat (first | exact sub_empty | refine sub_set (by simp) ?_)
    · simp; exact fun y hy => rawc_within _ y hy
  rintro i ⟨hi, hb⟩
  by_cases h1 : i < set.length
  · have hbad := setOK_false (n := a.length) h1
    rw [setAt_eq h1] at hbad
    simp [h1]
    by_cases c1 : set[i] < 0
    · have := hbad (by rw [Bool.and_eq_false_iff]; left; rw [decide_eq_false_iff_not]; omega)
      simp [c1, this]
    by_cases c2 : ¬ set[i] < a.length
    · have := hbad (by rw [Bool.and_eq_false_iff]; left; rw [decide_eq_false_iff_not]; omega)
      have c2' : (a.length : Int) ≤ set[i] := by omega
      simp [c1, c2', this]
    have c2 := Decidable.not_not.1 c2
    have c2' : ¬ (a.length : Int) ≤ set[i] := by omega
    obtain ⟨A, eA⟩ := Int.eq_ofNat_of_zero_le (show 0 ≤ set[i] by omega)
    have lA : A < a.length := by omega
    have okA := oa _ (List.getElem_mem lA)
    have hst := sumBy_take (f := fun s : Int => wq a s.toNat) h1
    have hsum : Fits (leftQ a (set.take i)) (2 ^ 31) := left_fit oa (by rw [List.length_take]; omega)
    have hq : wq a set[i].toNat = a[A].w.q := by rw [eA]; exact wq_eq lA
    rw [hq] at hst
    have hst' : leftQ a (set.take (i + 1)) = leftQ a (set.take i) + a[A].w.q := hst
    have rest : ∀ S : Sl, (S 0 = some (pl a) ∧ S 1 = some (pl b) ∧ S 2 = some (mayV may) ∧ S 3 = some (il set) ∧ S 9 = some (.ptr 0 0 0) ∧ S 28 = some (il set) ∧ S 29 = some (.int .i64 set.length) ∧ S 30 = some (.int .i64 ((i : Int) + 1))) → setAt a.length set i = true →
        Again [] (fun g : Nat => ((((((((Sl.empty.set 30 (.int .i64 g)).set 29 (.int .i64 set.length)).set 28 (il set)).set 9 (.ptr 0 0 0)).set 3 (il set)).set 2 (mayV may)).set 1 (pl b)).set 0 (pl a),
          [(0, ⟨.own, 3, [(rawOf (leftQ a (set.take g))).c]⟩)])) (fun g => g ≤ set.length ∧ ∀ j, j < g → setAt a.length set j = true) (fun g => set.length - g) i S
          [(0, ⟨.own, 3, [(rawOf (leftQ a (set.take (i + 1)))).c]⟩)] := by
      rintro S ⟨s0, s1, s2, s3, s4, s5, s6, s7⟩ hset
      refine ⟨i + 1, ⟨h1, fun j hj => ?_⟩, by dsimp only; omega, ?_⟩
      · by_cases e : j = i
        · subst e; exact hset
        · exact hb j (by omega)
      · refine weak_obs ?_ (by simp) (by repeat (first | exact sin_empty | refine sin_set (by simp) ?_)) ?_
        · exact sub_set s0 (sub_set s1 (sub_set s2 (sub_set s3 (sub_set s4 (sub_set s5 (sub_set s6 (sub_set s7 sub_empty)))))))
        · simp; exact fun y hy => rawc_within _ y hy
    have c1' : ¬ (A : Int) < 0 := by omega
    have c2'' : ¬ (a.length : Int) ≤ A := by omega
    by_cases i0 : i = 0
    · subst i0
      have hset : setAt a.length set 0 = true := by rw [setAt_eq h1]; simp; omega
      simp [eA, c1', c2'', lA]
      refine callFK_of (ref02_Add (rawOf_ok hsum) (Raw.Ok.mono okA.w (by omega))) (by simp [toD_rawc, raw_v]) ?_
      simp [ratV, raw_v, rawOf_q, setOb, List.filter_cons]
      have hst' : leftQ a (set.take 1) = leftQ a [] + a[A].w.q := by simpa using hst'
      rw [← hst', wrap64 (by omega) (by omega)]
      exact rest _ (by simp) hset
    · have ip : 0 < i := by omega
      have li : i - 1 < set.length := by omega
      simp [eA, c1', c2'', lA, ip, i0]
      rw [wrap64 (by omega) (by omega)]
      have e1 : ((i : Int) - 1).toNat = i - 1 := by omega
      have e2 : (0 : Int) ≤ (i : Int) - 1 := by omega
      have e3 : (1 : Int) ≤ i := by omega
      simp [e1, e2, e3, li]
      by_cases c3 : (A : Int) ≤ set[i - 1]
      · have := hbad (by rw [Bool.and_eq_false_iff]; right; simp; omega)
        have c3' : ¬ set[i - 1] < (A : Int) := by omega
        simp [c3, c3', this]
      · have c3' : set[i - 1] < (A : Int) := by omega
        have hset : setAt a.length set i = true := by rw [setAt_eq h1]; simp; omega
        simp [c3, c3', lA]
        refine callFK_of (ref02_Add (rawOf_ok hsum) (Raw.Ok.mono okA.w (by omega))) (by simp [toD_rawc, raw_v]) ?_
        simp [ratV, raw_v, rawOf_q, setOb, List.filter_cons]
        rw [← hst', wrap64 (by omega) (by omega)]
        exact rest _ (by simp) hset
  · have hil : i = set.length := by omega
    subst hil
    have hok : setOK a.length set = true := by
      unfold setOK; rw [List.all_eq_true]; exact fun j hj => hb j (List.mem_range.1 hj)
    have hin := setOK_in hok
    simp [h1, hok]
    clear h1 hb hi
    refine callK_of ref02_Zero (by simp) ?_
    simp [setOb, List.filter_cons, ratV, raw_v]
    refine wm_loop (fun g : Nat => (((((((Sl.empty.set 67 (.int .i64 g)).set 66 (.int .i64 b.length)).set 12 (.ptr 1 0 0)).set 9 (.ptr 0 0 0)).set 3 (il set)).set 2 (mayV may)).set 1 (pl b),
        [(0, ⟨.own, 3, [(rawOf (leftQ a set)).c]⟩), (1, ⟨.own, 3, [(rawOf (sumBy (nearQ b may set) (List.range g))).c]⟩)]))
      (fun g => g ≤ b.length) (fun g => b.length - g) 0 (by omega) ?_ ?_
    · refine weak_obs ?_ (by simp [sumBy]) (by repeat (first | exact sin_empty | refine sin_set (by simp) ?_)) ?_
      · repeat (first | exact sub_empty | refine sub_set (by simp) ?_)
      · simp; exact ⟨fun y hy => rawc_within _ y hy, fun y hy => rawc_within _ y hy⟩
    intro k hk
    have hsum : Fits (sumBy (nearQ b may set) (List.range k)) (2 ^ 31) := near_fit ob (by omega)
    by_cases h1 : k < b.length
    · have okB := ob _ (List.getElem_mem h1)
      have hst : sumBy (nearQ b may set) (List.range (k + 1)) = sumBy (nearQ b may set) (List.range k) + nearQ b may set k := by rw [List.range_succ, sumBy_snoc]
      simp [h1, setOb, List.filter_cons]
      refine wm_loop (fun g : Nat × Bool => ((((((((((((Sl.empty.set 72 (.int .i64 g.1)).set 71 (.int .i64 may.length)).set 70 (mayV may)).set 67 (.int .i64 k)).set 66 (.int .i64 b.length)).set 14 (.bool g.2)).set 13 (.int .i64 k)).set 12 (.ptr 1 0 0)).set 9 (.ptr 0 0 0)).set 3 (il set)).set 2 (mayV may)).set 1 (pl b),
          [(0, ⟨.own, 3, [(rawOf (leftQ a set)).c]⟩), (1, ⟨.own, 3, [(rawOf (sumBy (nearQ b may set) (List.range k))).c]⟩)]))
        (fun g => g.1 ≤ may.length ∧ g.2 = nearC (may.take g.1) set k) (fun g => may.length - g.1) (0, false) ⟨by simp, by simp [nearC]⟩ ?_ ?_
      · refine weak_obs ?_ (by simp) (by repeat (first | exact sin_empty | refine sin_set (by simp) ?_)) ?_
        · repeat (first | exact sub_empty | refine sub_set (by simp) ?_)
        · simp; exact ⟨fun y hy => rawc_within _ y hy, fun y hy => rawc_within _ y hy⟩
      rintro ⟨j, t⟩ ⟨hj, ht⟩
      dsimp only at hj ht
      by_cases h2 : j < may.length
      · have hn : nearC (may.take (j + 1)) set k = (t || set.any (hit may[j] k)) := by rw [ht]; exact any_take h2
        generalize hmi : may[j] = m at hn
        simp [h2, hmi, mayC, setOb, List.filter_cons]
        refine wm_loop (fun g : Nat × Bool => ((((((((((((((((Sl.empty.set 78 (.int .i64 g.1)).set 77 (.int .i64 set.length)).set 76 (il set)).set 72 (.int .i64 j)).set 71 (.int .i64 may.length)).set 70 (mayV may)).set 67 (.int .i64 k)).set 66 (.int .i64 b.length)).set 16 (.ptr 2 0 0)).set 14 (.bool g.2)).set 13 (.int .i64 k)).set 12 (.ptr 1 0 0)).set 9 (.ptr 0 0 0)).set 3 (il set)).set 2 (mayV may)).set 1 (pl b),
            [(0, ⟨.own, 3, [(rawOf (leftQ a set)).c]⟩), (1, ⟨.own, 3, [(rawOf (sumBy (nearQ b may set) (List.range k))).c]⟩), (2, ⟨.own, 2, [mayC m]⟩)]))
          (fun g => g.1 ≤ set.length ∧ g.2 = (t || (set.take g.1).any (hit m k))) (fun g => set.length - g.1) (0, t) ⟨by simp, by simp⟩ ?_ ?_
        · refine weak_obs ?_ (by simp [mayC]) (by repeat (first | exact sin_empty | refine sin_set (by simp) ?_)) ?_
          · repeat (first | exact sub_empty | refine sub_set (by simp [mayC]) ?_)
          · simp [mayC]; exact ⟨fun y hy => rawc_within _ y hy, fun y hy => rawc_within _ y hy⟩
        rintro ⟨x, u⟩ ⟨hx, hu⟩
        dsimp only at hx hu
        by_cases h3 : x < set.length
        · have hn2 : (t || (set.take (x + 1)).any (hit m k)) = (u || hit m k set[x]) := by rw [any_take h3, hu, Bool.or_assoc]
          have next : ∀ {S' : Sl} {v : Bool}, v = (u || hit m k set[x]) → S' 78 = some (.int .i64 ((x : Int) + 1)) → S' 14 = some (.bool v) → (S' 77 = some (.int .i64 set.length) ∧ S' 76 = some (il set) ∧ S' 72 = some (.int .i64 j) ∧ S' 71 = some (.int .i64 may.length) ∧ S' 70 = some (mayV may) ∧ S' 67 = some (.int .i64 k) ∧ S' 66 = some (.int .i64 b.length) ∧ S' 16 = some (.ptr 2 0 0) ∧ S' 13 = some (.int .i64 k) ∧ S' 12 = some (.ptr 1 0 0) ∧ S' 9 = some (.ptr 0 0 0) ∧ S' 3 = some (il set) ∧ S' 2 = some (mayV may) ∧ S' 1 = some (pl b)) →
              Again [] (fun g : Nat × Bool => ((((((((((((((((Sl.empty.set 78 (.int .i64 g.1)).set 77 (.int .i64 set.length)).set 76 (il set)).set 72 (.int .i64 j)).set 71 (.int .i64 may.length)).set 70 (mayV may)).set 67 (.int .i64 k)).set 66 (.int .i64 b.length)).set 16 (.ptr 2 0 0)).set 14 (.bool g.2)).set 13 (.int .i64 k)).set 12 (.ptr 1 0 0)).set 9 (.ptr 0 0 0)).set 3 (il set)).set 2 (mayV may)).set 1 (pl b),
                [(0, ⟨.own, 3, [(rawOf (leftQ a set)).c]⟩), (1, ⟨.own, 3, [(rawOf (sumBy (nearQ b may set) (List.range k))).c]⟩), (2, ⟨.own, 2, [mayC m]⟩)]))
                (fun g => g.1 ≤ set.length ∧ g.2 = (t || (set.take g.1).any (hit m k))) (fun g => set.length - g.1) (x, u) S'
                [(0, ⟨.own, 3, [(rawOf (leftQ a set)).c]⟩), (1, ⟨.own, 3, [(rawOf (sumBy (nearQ b may set) (List.range k))).c]⟩), (2, ⟨.own, 2, [mayC m]⟩)] := by
            rintro S' v hv e1 e2 ⟨f1, f2, f3, f4, f5, f6, f7, f8, f9, f10, f11, f12, f13, f14⟩
            refine ⟨(x + 1, v), ⟨h3, by rw [hv]; exact hn2.symm⟩, by dsimp only; omega, ?_⟩
            refine weak_obs ?_ (by simp [mayC]) (by repeat (first | exact sin_empty | refine sin_set (by simp) ?_)) ?_
            · repeat (first | exact sub_empty | refine sub_set (by assumption) ?_)
            · simp [mayC]; exact ⟨fun y hy => rawc_within _ y hy, fun y hy => rawc_within _ y hy⟩
          simp only [mayC] at next
          cases u with
          | true =>
            simp [h3, mayC]
            rw [wrap64 (by omega) (by omega)]
            exact next (v := true) (by simp) (by simp) (by simp) (by simp)
          | false =>
            by_cases d1 : m.1 = set[x]
            · by_cases d2 : m.2 = (k : Int)
              · simp [h3, mayC, d1, d2]
                rw [wrap64 (by omega) (by omega)]
                rw [d1, d2] at next
                exact next (v := true) (by simp [hit, d1, d2]) (by simp) (by simp) (by simp)
              · simp [h3, mayC, d1, d2]
                rw [wrap64 (by omega) (by omega)]
                rw [d1] at next
                exact next (v := false) (by simp [hit, d1, d2]) (by simp) (by simp) (by simp)
            · simp [h3, mayC, d1]
              rw [wrap64 (by omega) (by omega)]
              exact next (v := false) (by simp [hit, d1]) (by simp) (by simp) (by simp)
        · have hil : x = set.length := by omega
          subst hil
          rw [List.take_length] at hu
          simp [h3]
          rw [wrap64 (by omega) (by omega)]
          refine ⟨(j + 1, u), ⟨h2, by rw [hu]; exact hn.symm⟩, by dsimp only; omega, ?_⟩
          refine weak_obs ?_ (by simp) (by repeat (first | exact sin_empty | refine sin_set (by simp) ?_)) ?_
          · repeat (first | exact sub_empty | refine sub_set (by simp) ?_)
          · simp; exact ⟨fun y hy => rawc_within _ y hy, fun y hy => rawc_within _ y hy⟩
      · have hil : j = may.length := by omega
        subst hil
        rw [List.take_length, nearC_eq fun s hs => (hin s hs).1] at ht
        simp [h2]
        cases t with
        | false =>
          have e0 : nearQ b may set k = 0 := by unfold nearQ; rw [← ht]; rfl
          rw [e0, Rat.add_zero] at hst
          simp
          rw [wrap64 (by omega) (by omega)]
          refine ⟨k + 1, h1, by dsimp only; omega, ?_⟩
          dsimp only
          rw [hst]
          refine weak_obs ?_ (by simp) (by repeat (first | exact sin_empty | refine sin_set (by simp) ?_)) ?_
          · repeat (first | exact sub_empty | refine sub_set (by simp) ?_)
          · simp; exact ⟨fun y hy => rawc_within _ y hy, fun y hy => rawc_within _ y hy⟩
        | true =>
          have e0 : nearQ b may set k = b[k].w.q := by unfold nearQ; rw [← ht, if_pos rfl]; exact wq_eq h1
          rw [e0] at hst
          simp [h1]
          refine callFK_of (ref02_Add (rawOf_ok hsum) (Raw.Ok.mono okB.w (by omega))) (by simp [toD_rawc, raw_v]) ?_
          simp [ratV, raw_v, rawOf_q, setOb, List.filter_cons]
          rw [← hst, wrap64 (by omega) (by omega)]
          refine ⟨k + 1, h1, by dsimp only; omega, ?_⟩
          refine weak_obs ?_ (by simp) (by repeat (first | exact sin_empty | refine sin_set (by simp) ?_)) ?_
          · repeat (first | exact sub_empty | refine sub_set (by simp) ?_)
          · simp; exact ⟨fun y hy => rawc_within _ y hy, fun y hy => rawc_within _ y hy⟩
    · have hil : k = b.length := by omega
      subst hil
      simp [h1]
      refine callK_of (ref02_Compare (rawOf_ok (left_fit oa ls)) (rawOf_ok hsum)) (by simp [toD_rawc, raw_v]) ?_
      rw [rawOf_q, rawOf_q]
      simp [cmpR_gt, rightQ]
      exact decide_eq_decide.2 Iff.rfl
end Go.Proofs.YtnneehniendnfaaGreat
