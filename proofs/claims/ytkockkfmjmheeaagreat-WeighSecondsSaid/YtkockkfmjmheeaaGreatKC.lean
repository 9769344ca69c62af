import Derived.Test.YtkockkfmjmheeaaGreatGE
import Derived.Test.YtkockkfmjmheeaaGreatGC
import Derived.Test.YtkockkfmjmheeaaGreatProg
import Derived.KernelRfl
import Derived.Test.YtkockkfmjmheeaaGreatGH
import Derived.Test.YtkockkfmjmheeaaGreatGL
import Derived.Test.YtkockkfmjmheeaaGreatKE
import Derived.Test.YtkockkfmjmheeaaGreatKF
import Derived.Test.YtkockkfmjmheeaaGreatHA
import Derived.Test.YtkockkfmjmheeaaGreatGM
import Derived.Test.YtkockkfmjmheeaaGreatGJ
import Derived.Test.YtkockkfmjmheeaaGreatGK
import Derived.Test.YtkockkfmjmheeaaGreatGI
namespace Go.Proofs.YtkockkfmjmheeaaGreat.F
open Go Go.Proofs Go.Proofs.YtkockkfmjmheeaaGreat.E Go.Proofs.YtkockkfmjmheeaaGreat.Q
abbrev weigh_Weighs : Nat := 6
def weigh_Weighs_c : MFn := ⟨5,(.seq (r [o 1 (.box (.t 0)),o 2 (.mv (.c (.bool false)))] [1]) (.seq (r [o 3 (.ld (some 8) (.t 1)),o 4 (.call 17 [(.t 3)]),o 2 (.mv (.t 4))] [2]) .ret)),[.t 2]⟩
theorem weigh_Weighs_ok : cFn Tryz.prog (kps [[1],[2]]) [] 6 = some weigh_Weighs_c := by kernel_rfl
abbrev law31_alive : Nat := 8
def law31_alive_c : MFn := ⟨43,(.seq (r [o 0 (.mv (.c (.bool false)))] []) (.seq (r [o 6 (.call 20 []),o 7 (.call 19 [(.t 6),(.c .nils),(i 0),(i 9)]),o 5 (.mv (.t 7)),o 8 (.ext (.t 5) 0),o 9 (.ext (.t 5) 1),o 1 (.mv (.t 8)),o 2 (.mv (.t 9))] [1,2]) (.seq (r [o 11 (.call 21 [(i 1),(i 4)]),o 10 (.mv (.t 11)),o 12 (.ext (.t 10) 0),o 13 (.ext (.t 10) 1),o 3 (.alloc zR),z (.st 3 (.t 3) (.t 12)),o 4 (.mv (.t 13))] [1,2,3]) (.seq (r [o 14 (.mv (.t 2)),o 15 (.bin .eql (.t 14) (i 0)),o 16 (.mv (.t 15)),y 17 16 (.mv (.t 1)),y 18 16 (.lenS (.t 17)),y 19 16 (.bin .eql (.t 18) (i 1)),o 20 (.pick (.t 16) (.t 19) (.c (.bool false))),o 21 (.mv (.t 20)),y 22 21 (.mv (.t 1)),y 23 21 (.ixA 9 (.t 22) (i 0)),y 24 21 (.fA 5 (.t 23)),y 25 21 (.ld none (.t 24)),y 26 21 (.lenS (.t 25)),y 27 21 (.bin .eql (.t 26) (i 0)),o 28 (.pick (.t 21) (.t 27) (.c (.bool false))),o 29 (.mv (.t 28)),y 30 29 (.mv (.t 1)),y 31 29 (.ixA 9 (.t 30) (i 0)),y 32 29 (.fA 6 (.t 31)),y 33 29 (.ld (some 3) (.t 32)),y 34 29 (.ld (some 3) (.t 3)),y 35 29 (.callF 15 [(.t 33),(.t 34)]),o 36 (.pick (.t 29) (.t 35) (.c (.bool false))),o 37 (.mv (.t 36)),y 38 37 (.callF 20 []),y 39 37 (.fld 2 (some 10) (.t 38)),y 40 37 (.fld 2 (some 8) (.t 39)),y 41 37 (.callF 6 [(.t 40)]),o 42 (.pick (.t 37) (.t 41) (.c (.bool false))),o 0 (.mv (.t 42))] [0]) .ret)))),[.t 0]⟩
theorem law31_alive_ok : cFn Tryz.prog (kps [[],[1,2],[1,2,3],[0]]) [] 8 = some law31_alive_c := by kernel_rfl
abbrev play_Weighs : Nat := 17
def play_Weighs_c : MFn := ⟨59,(.seq (r [o 1 (.box (.t 0)),o 2 (.mv (.c (.bool false)))] [1]) (.seq (.seq (r [o 4 (.fA 0 (.t 1)),o 5 (.ld none (.t 4)),o 6 (.bin .neq (.t 5) (i 10)),o 7 (.mv (.t 6)),n 8 7 (.fA 7 (.t 1)),n 9 7 (.ld none (.t 8)),n 10 7 (.lenS (.t 9)),n 11 7 (.bin .neq (.t 10) (i 2)),o 12 (.pick (.t 7) (.c (.bool true)) (.t 11))] [1,12]) (.cond (.t 12) (.seq (r [o 2 (.mv (.c (.bool false)))] [2]) .ret) .skip)) (.seq (r [o 13 (.fA 7 (.t 1)),o 14 (.ld none (.t 13)),o 15 (.ixA 8 (.t 14) (i 0)),o 16 (.ld (some 8) (.t 15)),o 3 (.alloc [.int .i64 0,.int .i64 0,.int .i64 0,.int .i64 0,.int .i64 0,.nils,.nils,.nils]),z (.st 8 (.t 3) (.t 16))] [3]) (.seq (r [o 17 (.fA 0 (.t 3)),o 18 (.ld none (.t 17)),o 19 (.bin .eql (.t 18) (i 6)),o 20 (.mv (.t 19)),y 21 20 (.fA 1 (.t 3)),y 22 20 (.ld none (.t 21)),y 23 20 (.bin .eql (.t 22) (i 6)),o 24 (.pick (.t 20) (.t 23) (.c (.bool false))),o 25 (.mv (.t 24)),y 26 25 (.fA 7 (.t 3)),y 27 25 (.ld none (.t 26)),y 28 25 (.lenS (.t 27)),y 29 25 (.bin .eql (.t 28) (i 2)),o 30 (.pick (.t 25) (.t 29) (.c (.bool false))),o 31 (.mv (.t 30)),y 32 31 (.fA 7 (.t 3)),y 33 31 (.ld none (.t 32)),y 34 31 (.ixA 8 (.t 33) (i 0)),y 35 31 (.ld (some 8) (.t 34)),y 36 31 (.call 44 [(.t 35)]),y 37 31 (.mv (.t 36)),y 38 37 (.fA 7 (.t 3)),y 39 37 (.ld none (.t 38)),y 40 37 (.ixA 8 (.t 39) (i 1)),y 41 37 (.ld (some 8) (.t 40)),y 42 37 (.call 45 [(.t 41)]),y 43 31 (.pick (.t 37) (.t 42) (.c (.bool false))),y 44 31 (.mv (.t 43)),n 45 44 (.fA 7 (.t 3)),n 46 44 (.ld none (.t 45)),n 47 44 (.ixA 8 (.t 46) (i 0)),n 48 44 (.ld (some 8) (.t 47)),n 49 44 (.call 45 [(.t 48)]),n 50 44 (.mv (.t 49)),y 51 50 (.fA 7 (.t 3)),y 52 50 (.ld none (.t 51)),y 53 50 (.ixA 8 (.t 52) (i 1)),y 54 50 (.ld (some 8) (.t 53)),y 55 50 (.call 44 [(.t 54)]),n 56 44 (.pick (.t 50) (.t 55) (.c (.bool false))),y 57 31 (.pick (.t 44) (.c (.bool true)) (.t 56)),o 58 (.pick (.t 31) (.t 57) (.c (.bool false))),o 2 (.mv (.t 58))] [2]) .ret)))),[.t 2]⟩
theorem play_Weighs_ok : cFn Tryz.prog (kps [[1],[1,12],[2],[3],[2]]) [] 17 = some play_Weighs_c := by kernel_rfl
abbrev weigh_Runs : Nat := 19
def weigh_Runs_c : MFn := ⟨42,(.seq (r [o 4 (.box (.t 0)),o 8 (.mv (.c .nils)),o 9 (.mv (i 0))] [1,2,3,4]) (.seq (.seq (r [o 12 (.ld (some 13) (.t 4)),o 13 (.call 47 [(.t 12)]),o 14 (.un .not (.t 13)),o 15 (.mv (.t 14)),n 16 15 (.ld (some 13) (.t 4)),n 17 15 (.mv (.t 1)),n 18 15 (.call 48 [(.t 16),(.t 17)]),n 19 15 (.un .not (.t 18)),o 20 (.pick (.t 15) (.c (.bool true)) (.t 19)),o 21 (.mv (.t 20)),n 22 21 (.mv (.t 2)),n 23 21 (.bin .lss (.t 22) (i 0)),o 24 (.pick (.t 21) (.c (.bool true)) (.t 23)),o 25 (.mv (.t 24)),n 26 25 (.mv (.t 2)),n 27 25 (.bin .gtr (.t 26) (i 200)),o 28 (.pick (.t 25) (.c (.bool true)) (.t 27))] [1,2,3,4,28]) (.cond (.t 28) (.seq (r [o 8 (.mv (.c .nils)),o 9 (.mv (i 1))] [8,9]) .ret) .skip)) (.seq (r [o 30 (.ld (some 13) (.t 4)),o 31 (.mv (.t 1)),o 32 (.mv (.t 2)),o 33 (.mv (.t 3)),o 34 (.min2 (.t 33) (i 4096)),o 35 (.call 49 [(.t 30),(.t 31),(.t 32),(.t 34)]),o 29 (.mv (.t 35)),o 36 (.ext (.t 29) 0),o 37 (.ext (.t 29) 1),o 10 (.mv (.t 36)),o 11 (.mv (.t 37))] [10,11]) (.seq (.seq (r [o 38 (.mv (.t 11)),o 39 (.bin .neq (.t 38) (i 0))] [10,11,39]) (.cond (.t 39) (.seq (r [o 40 (.mv (.t 11)),o 8 (.mv (.c .nils)),o 9 (.mv (.t 40))] [8,9]) .ret) .skip)) (.seq (r [o 41 (.mv (.t 10)),o 8 (.mv (.t 41)),o 9 (.mv (i 0))] [8,9]) .ret))))),[.t 8,.t 9]⟩
theorem weigh_Runs_ok : cFn Tryz.prog (kps [[1,2,3,4],[1,2,3,4,28],[8,9],[10,11],[10,11,39],[8,9],[8,9]]) [] 19 = some weigh_Runs_c := by kernel_rfl
abbrev law31_quarter : Nat := 20
def law31_quarter_c : MFn := ⟨32,(.seq (r [o 0 (.alloc [.nils,.nils,.int .i64 0,.int .i64 0,.int .i64 0,.int .i64 0,.int .i64 0,.int .i64 0,.int .i64 0,.nils,.nils,.nils,.int .i64 0])] [0]) (.seq (r [o 1 (.mv (.c .nils))] [0,1]) (.seq (.seq (r [o 2 (.mv (i 1))] [0,1,2]) (.block 0 (.loop (.seq (.seq (r [o 5 (.mv (.t 2)),o 6 (.bin .leq (.t 5) (i 4))] [0,1,2,6]) (.cond (.t 6) .skip (.exit 0))) (.seq (.block 1 (r [o 9 (.mv (.t 1)),o 10 (.mv (.t 2)),o 11 (.build zV [(0,1,(i 2)),(1,1,(.t 10))]),o 12 (.build [.int .i64 0,.int .i64 0,.int .i64 0,.int .i64 0,.int .i64 0,.nils,.nils,.nils] [(0,1,(i 1)),(3,3,(.t 11))]),o 13 (.buildSl 8 1 [.int .i64 0,.int .i64 0,.int .i64 0,.int .i64 0,.int .i64 0,.nils,.nils,.nils] [(0,(.t 12))]),o 14 (.app 8 112 (.t 9) (.t 13)),o 1 (.mv (.t 14))] [0,1,2])) (r [o 7 (.mv (.t 2)),o 8 (.bin .add (.t 7) (i 1)),o 2 (.mv (.t 8))] [0,1,2])))))) (.seq (r [o 15 (.buildSl 1 4 [.int .i64 0] [(0,(i 1)),(1,(i 1)),(2,(i 1)),(3,(i 1))]),o 16 (.mv (.t 1)),o 17 (.build [.int .i64 0,.int .i64 0,.int .i64 0,.int .i64 0,.int .i64 0,.nils,.nils,.nils] [(0,1,(i 12)),(6,1,(.t 15)),(7,1,(.t 16))]),o 3 (.alloc [.int .i64 0,.int .i64 0,.int .i64 0,.int .i64 0,.int .i64 0,.nils,.nils,.nils]),z (.st 8 (.t 3) (.t 17))] [0,1,3]) (.seq (r [o 18 (.ld (some 8) (.t 3)),o 19 (.mv (.t 1)),o 20 (.ixA 8 (.t 19) (i 1)),o 21 (.ld (some 8) (.t 20)),o 22 (.buildSl 8 2 [.int .i64 0,.int .i64 0,.int .i64 0,.int .i64 0,.int .i64 0,.nils,.nils,.nils] [(0,(.t 18)),(1,(.t 21))]),o 23 (.build [.int .i64 0,.int .i64 0,.int .i64 0,.int .i64 0,.int .i64 0,.nils,.nils,.nils] [(0,1,(i 6)),(1,1,(i 6)),(7,1,(.t 22))]),o 4 (.alloc [.int .i64 0,.int .i64 0,.int .i64 0,.int .i64 0,.int .i64 0,.nils,.nils,.nils]),z (.st 8 (.t 4) (.t 23))] [0,1,4]) (.seq (r [o 24 (.ld (some 8) (.t 4)),o 25 (.mv (.t 1)),o 26 (.ixA 8 (.t 25) (i 0)),o 27 (.ld (some 8) (.t 26)),o 28 (.buildSl 8 2 [.int .i64 0,.int .i64 0,.int .i64 0,.int .i64 0,.int .i64 0,.nils,.nils,.nils] [(0,(.t 24)),(1,(.t 27))]),o 29 (.build [.int .i64 0,.int .i64 0,.int .i64 0,.int .i64 0,.int .i64 0,.nils,.nils,.nils] [(0,1,(i 10)),(7,1,(.t 28))]),o 30 (.build [.int .i64 0,.int .i64 0,.int .i64 0,.int .i64 0,.int .i64 0,.int .i64 0,.int .i64 0,.nils,.nils,.nils] [(2,8,(.t 29))]),o 31 (.build [.nils,.nils,.int .i64 0,.int .i64 0,.int .i64 0,.int .i64 0,.int .i64 0,.int .i64 0,.int .i64 0,.nils,.nils,.nils,.int .i64 0] [(2,10,(.t 30)),(12,1,(i 1))]),z (.st 13 (.t 0) (.t 31))] [0]) .ret)))))),[.cell 0 (some 13)]⟩
theorem law31_quarter_ok : cFn Tryz.prog (kps [[0],[0,1],[0,1,2],[0,1,2,6],[0,1,2],[0,1,2],[0,1,3],[0,1,4],[0]]) [] 20 = some law31_quarter_c := by kernel_rfl
abbrev play_plain : Nat := 44
def play_plain_c : MFn := ⟨27,(.seq (r [o 1 (.box (.t 0)),o 2 (.mv (.c (.bool false)))] [1]) (.seq (r [o 3 (.fA 0 (.t 1)),o 4 (.ld none (.t 3)),o 5 (.bin .eql (.t 4) (i 12)),o 6 (.mv (.t 5)),y 7 6 (.fA 7 (.t 1)),y 8 6 (.ld none (.t 7)),y 9 6 (.lenS (.t 8)),y 10 6 (.bin .gtr (.t 9) (i 0)),o 11 (.pick (.t 6) (.t 10) (.c (.bool false))),o 12 (.mv (.t 11)),y 13 12 (.fA 6 (.t 1)),y 14 12 (.ld none (.t 13)),y 15 12 (.lenS (.t 14)),y 16 12 (.fA 7 (.t 1)),y 17 12 (.ld none (.t 16)),y 18 12 (.lenS (.t 17)),y 19 12 (.bin .eql (.t 15) (.t 18)),o 20 (.pick (.t 12) (.t 19) (.c (.bool false))),o 21 (.mv (.t 20)),y 22 21 (.fA 7 (.t 1)),y 23 21 (.ld none (.t 22)),y 24 21 (.call 75 [(.t 23),(.c (.clo 76 []))]),y 25 21 (.un .not (.t 24)),o 26 (.pick (.t 21) (.t 25) (.c (.bool false))),o 2 (.mv (.t 26))] [2]) .ret)),[.t 2]⟩
theorem play_plain_ok : cFn Tryz.prog (kps [[1],[2]]) [] 44 = some play_plain_c := by kernel_rfl
abbrev play_known : Nat := 45
def play_known_c : MFn := ⟨11,(.seq (r [o 1 (.box (.t 0)),o 2 (.mv (.c (.bool false)))] [1]) (.seq (r [o 3 (.fA 0 (.t 1)),o 4 (.ld none (.t 3)),o 5 (.bin .eql (.t 4) (i 1)),o 6 (.mv (.t 5)),n 7 6 (.fA 0 (.t 1)),n 8 6 (.ld none (.t 7)),n 9 6 (.bin .eql (.t 8) (i 2)),o 10 (.pick (.t 6) (.c (.bool true)) (.t 9)),o 2 (.mv (.t 10))] [2]) .ret)),[.t 2]⟩
theorem play_known_ok : cFn Tryz.prog (kps [[1],[2]]) [] 45 = some play_known_c := by kernel_rfl
abbrev core_Right : Nat := 47
def core_Right_c : MFn := ⟨67,(.seq (r [o 1 (.box (.t 0)),o 2 (.mv (.c (.bool false)))] [1]) (.seq (.seq (r [o 8 (.fA 0 (.t 1)),o 9 (.ld none (.t 8)),o 10 (.lenS (.t 9)),o 11 (.bin .gtr (.t 10) (i 8)),o 12 (.mv (.t 11)),n 13 12 (.fA 1 (.t 1)),n 14 12 (.ld none (.t 13)),n 15 12 (.lenS (.t 14)),n 16 12 (.bin .gtr (.t 15) (i 40)),o 17 (.pick (.t 12) (.c (.bool true)) (.t 16)),o 18 (.mv (.t 17)),n 19 18 (.fA 12 (.t 1)),n 20 18 (.ld none (.t 19)),n 21 18 (.bin .lss (.t 20) (i 0)),o 22 (.pick (.t 18) (.c (.bool true)) (.t 21)),o 23 (.mv (.t 22)),n 24 23 (.fA 12 (.t 1)),n 25 23 (.ld none (.t 24)),n 26 23 (.bin .gtr (.t 25) (i 100000)),o 27 (.pick (.t 23) (.c (.bool true)) (.t 26)),o 28 (.mv (.t 27)),n 29 28 (.fA 2 (.t 1)),n 30 28 (.fA 0 (.t 29)),n 31 28 (.ld none (.t 30)),n 32 28 (.fA 0 (.t 1)),n 33 28 (.ld none (.t 32)),n 34 28 (.lenS (.t 33)),n 35 28 (.bin .neq (.t 31) (.t 34)),o 36 (.pick (.t 28) (.c (.bool true)) (.t 35))] [1,36]) (.cond (.t 36) (.seq (r [o 2 (.mv (.c (.bool false)))] [2]) .ret) .skip)) (.seq (.seq (r [o 37 (.fA 0 (.t 1)),o 38 (.ld none (.t 37)),o 39 (.lenS (.t 38)),o 40 (.mv (i 0))] [1,38,39,40]) (.block 0 (.loop (.seq (r [o 41 (.bin .lss (.t 40) (.t 39))] [1,38,39,40,41]) (.seq (.cond (.t 41) .skip (.exit 0)) (.seq (.block 1 (.seq (r [o 42 (.ixA 2 (.t 38) (.t 40)),o 43 (.ld (some 2) (.t 42)),o 4 (.alloc [.int .i64 0,.nils]),z (.st 2 (.t 4) (.t 43))] [1,4,38,39,40]) (.seq (r [o 44 (.ld (some 2) (.t 4)),o 45 (.call 77 [(.t 44)]),o 46 (.un .not (.t 45))] [1,38,39,40,46]) (.cond (.t 46) (.seq (r [o 2 (.mv (.c (.bool false)))] [2]) .ret) .skip)))) (r [o 47 (.bin .add (.t 40) (i 1)),o 40 (.mv (.t 47))] [1,38,39,40]))))))) (.seq (r [o 48 (.ld (some 13) (.t 1)),o 49 (.build [.nils,.nils,.int .i64 0,.int .i64 0,.int .i64 0,.int .i64 0,.int .i64 0,.int .i64 0,.int .i64 0,.nils,.nils,.nils,.int .i64 0,.int .i64 0] [(0,13,(.t 48))]),o 50 (.box (.t 49)),o 5 (.mv (.t 50))] [1,5]) (.seq (.seq (r [o 51 (.fA 1 (.t 1)),o 52 (.ld none (.t 51)),o 53 (.lenS (.t 52)),o 54 (.mv (i 0))] [1,5,52,53,54]) (.block 2 (.loop (.seq (r [o 55 (.bin .lss (.t 54) (.t 53))] [1,5,52,53,54,55]) (.seq (.cond (.t 55) .skip (.exit 2)) (.seq (.block 3 (.seq (r [o 56 (.ixA 10 (.t 52) (.t 54)),o 57 (.ld (some 10) (.t 56)),o 7 (.alloc [.int .i64 0,.int .i64 0,.int .i64 0,.int .i64 0,.int .i64 0,.int .i64 0,.int .i64 0,.nils,.nils,.nils]),z (.st 10 (.t 7) (.t 57))] [1,5,7,52,53,54]) (.seq (r [o 58 (.mv (.t 5)),o 59 (.ld (some 10) (.t 7)),o 60 (.call 78 [(.t 58),(.t 59)]),o 61 (.un .not (.t 60))] [1,5,52,53,54,61]) (.cond (.t 61) (.seq (r [o 2 (.mv (.c (.bool false)))] [2]) .ret) .skip)))) (r [o 62 (.bin .add (.t 54) (i 1)),o 54 (.mv (.t 62))] [1,5,52,53,54]))))))) (.seq (r [o 63 (.mv (.t 5)),o 64 (.fA 2 (.t 1)),o 65 (.ld (some 10) (.t 64)),o 66 (.call 78 [(.t 63),(.t 65)]),o 2 (.mv (.t 66))] [2]) .ret)))))),[.t 2]⟩
theorem core_Right_ok : cFn Tryz.prog (kps [[1],[1,36],[2],[1,38,39,40],[1,38,39,40,41],[1,4,38,39,40],[1,38,39,40,46],[2],[1,38,39,40],[1,5],[1,5,52,53,54],[1,5,52,53,54,55],[1,5,7,52,53,54],[1,5,52,53,54,61],[2],[1,5,52,53,54],[2]]) [] 47 = some core_Right_c := by kernel_rfl
abbrev core_Fit : Nat := 48
def core_Fit_c : MFn := ⟨9,(.seq (r [o 2 (.box (.t 0)),o 4 (.mv (.c (.bool false)))] [1,2]) (.seq (r [o 5 (.fA 0 (.t 2)),o 6 (.ld none (.t 5)),o 7 (.mv (.t 1)),o 8 (.call 79 [(.t 6),(.t 7),(.c (.clo 80 []))]),o 4 (.mv (.t 8))] [4]) .ret)),[.t 4]⟩
theorem core_Fit_ok : cFn Tryz.prog (kps [[1,2],[4]]) [] 48 = some core_Fit_c := by kernel_rfl
abbrev play_All : Nat := 49
def play_All_c : MFn := ⟨49,(.seq (r [o 4 (.box (.t 0)),o 6 (.box (.t 2)),o 8 (.mv (.c .nils)),o 9 (.mv (i 0))] [1,3,4,6]) (.seq (r [o 16 (.mkF 82 [(.t 4),(.t 6)]),o 17 (.mv (.t 1)),o 18 (.mv (.t 3)),o 19 (.call 81 [(.t 16),(.t 17),(.c .nils),(.t 18)]),o 15 (.mv (.t 19)),o 20 (.ext (.t 15) 0),o 21 (.ext (.t 15) 1),o 10 (.mv (.t 20)),o 11 (.mv (.t 21))] [10,11]) (.seq (.seq (r [o 22 (.mv (.t 11)),o 23 (.un .not (.t 22))] [10,23]) (.cond (.t 23) (.seq (r [o 8 (.mv (.c .nils)),o 9 (.mv (i 2))] [8,9]) .ret) .skip)) (.seq (r [o 12 (.mv (.c .nils))] [10,12]) (.seq (.seq (r [o 24 (.mv (.t 10)),o 25 (.lenS (.t 24)),o 26 (.mv (i 0))] [12,24,25,26]) (.block 0 (.loop (.seq (r [o 27 (.bin .lss (.t 26) (.t 25))] [12,24,25,26,27]) (.seq (.cond (.t 27) .skip (.exit 0)) (.seq (.block 1 (.seq (r [o 28 (.ixA 1 (.t 24) (.t 26)),o 29 (.ld none (.t 28)),o 14 (.mv (.t 29))] [12,14,24,25,26]) (r [o 30 (.mv (.t 12)),o 31 (.mv (.t 14)),o 32 (.fA 0 (.t 31)),o 33 (.fA 22 (.t 32)),o 34 (.ld (some 5) (.t 33)),o 35 (.mv (.t 14)),o 36 (.fA 0 (.t 35)),o 37 (.fA 17 (.t 36)),o 38 (.ld none (.t 37)),o 39 (.mv (.t 14)),o 40 (.fA 0 (.t 39)),o 41 (.fA 19 (.t 40)),o 42 (.ld (some 3) (.t 41)),o 43 (.callF 83 [(.t 42)]),o 44 (.build [.int .i64 0,.int .i64 0,.int .i64 0,.int .i64 0,.nils,.nils,.bool false,.nils,.nils] [(0,5,(.t 34)),(5,1,(.t 38)),(6,3,(.t 43))]),o 45 (.buildSl 9 1 [.int .i64 0,.int .i64 0,.int .i64 0,.int .i64 0,.nils,.nils,.bool false,.nils,.nils] [(0,(.t 44))]),o 46 (.app 9 136 (.t 30) (.t 45)),o 12 (.mv (.t 46))] [12,24,25,26]))) (r [o 47 (.bin .add (.t 26) (i 1)),o 26 (.mv (.t 47))] [12,24,25,26]))))))) (.seq (r [o 48 (.mv (.t 12)),o 8 (.mv (.t 48)),o 9 (.mv (i 0))] [8,9]) .ret)))))),[.t 8,.t 9]⟩
theorem play_All_ok : cFn Tryz.prog (kps [[1,3,4,6],[10,11],[10,23],[8,9],[10,12],[12,24,25,26],[12,24,25,26,27],[12,14,24,25,26],[12,24,25,26],[12,24,25,26],[8,9]]) [] 49 = some play_All_c := by kernel_rfl
abbrev slices_ContainsFunc_Term_Term : Nat := 75
def slices_ContainsFunc_Term_Term_c : MFn := ⟨9,(.seq (r [o 4 (.mv (.c (.bool false)))] [0,1]) (.seq (r [o 5 (.mv (.t 0)),o 6 (.mv (.t 1)),o 7 (.call 97 [(.t 5),(.t 6)]),o 8 (.bin .geq (.t 7) (i 0)),o 4 (.mv (.t 8))] [4]) .ret)),[.t 4]⟩
theorem slices_ContainsFunc_Term_Term_ok : cFn Tryz.prog (kps [[0,1],[4]]) [] 75 = some slices_ContainsFunc_Term_Term_c := by kernel_rfl
abbrev play_plain_1 : Nat := 76
def play_plain_1_c : MFn := ⟨6,(.seq (r [o 1 (.box (.t 0)),o 2 (.mv (.c (.bool false)))] [1]) (.seq (r [o 3 (.fA 0 (.t 1)),o 4 (.ld none (.t 3)),o 5 (.bin .neq (.t 4) (i 1)),o 2 (.mv (.t 5))] [2]) .ret)),[.t 2]⟩
theorem play_plain_1_ok : cFn Tryz.prog (kps [[1],[2]]) [] 76 = some play_plain_1_c := by kernel_rfl
abbrev value_TypeRight : Nat := 77
def value_TypeRight_c : MFn := ⟨5,(.seq (r [o 1 (.box (.t 0)),o 2 (.mv (.c (.bool false)))] [1]) (.seq (r [o 3 (.ld (some 2) (.t 1)),o 4 (.call 98 [(.t 3),(i 40)]),o 2 (.mv (.t 4))] [2]) .ret)),[.t 2]⟩
theorem value_TypeRight_ok : cFn Tryz.prog (kps [[1],[2]]) [] 77 = some value_TypeRight_c := by kernel_rfl
abbrev core_looker_body : Nat := 78
def core_looker_body_c : MFn := ⟨49,(.seq (r [o 3 (.box (.t 1)),o 4 (.mv (.c (.bool false)))] [0,3]) (.seq (.seq (r [o 7 (.fA 0 (.t 3)),o 8 (.ld none (.t 7)),o 9 (.bin .lss (.t 8) (i 0)),o 10 (.mv (.t 9)),n 11 10 (.fA 0 (.t 3)),n 12 10 (.ld none (.t 11)),n 13 10 (.bin .gtr (.t 12) (i 8)),o 14 (.pick (.t 10) (.c (.bool true)) (.t 13)),o 15 (.mv (.t 14)),n 16 15 (.fA 1 (.t 3)),n 17 15 (.ld none (.t 16)),n 18 15 (.fA 0 (.t 3)),n 19 15 (.ld none (.t 18)),n 20 15 (.bin .lss (.t 17) (.t 19)),o 21 (.pick (.t 15) (.c (.bool true)) (.t 20)),o 22 (.mv (.t 21)),n 23 22 (.fA 1 (.t 3)),n 24 22 (.ld none (.t 23)),n 25 22 (.bin .gtr (.t 24) (i 1000)),o 26 (.pick (.t 22) (.c (.bool true)) (.t 25))] [0,3,26]) (.cond (.t 26) (.seq (r [o 4 (.mv (.c (.bool false)))] [4]) .ret) .skip)) (.seq (r [o 27 (.fA 1 (.t 3)),o 28 (.ld none (.t 27)),o 29 (.mkSl 1 1 [.bool false] (.t 28) (.t 28)),o 5 (.mv (.t 29))] [0,3,5]) (.seq (.seq (r [o 30 (.fA 0 (.t 3)),o 31 (.ld none (.t 30)),o 32 (.mv (i 0))] [0,3,5,31,32]) (.block 0 (.loop (.seq (r [o 33 (.bin .lss (.t 32) (.t 31))] [0,3,5,31,32,33]) (.seq (.cond (.t 33) .skip (.exit 0)) (.seq (.block 1 (.seq (r [o 34 (.mv (.t 32)),o 6 (.mv (.t 34))] [0,3,5,6,31,32]) (r [o 35 (.mv (.t 5)),o 36 (.mv (.t 6)),o 37 (.ixA 1 (.t 35) (.t 36)),z (.st 1 (.t 37) (.c (.bool true)))] [0,3,5,31,32]))) (r [o 38 (.bin .add (.t 32) (i 1)),o 32 (.mv (.t 38))] [0,3,5,31,32]))))))) (.seq (r [o 39 (.mv (.t 0)),o 40 (.fA 1 (.t 3)),o 41 (.ld none (.t 40)),o 42 (.fA 0 (.t 39)),o 43 (.fA 13 (.t 42)),z (.st 1 (.t 43) (.t 41))] [0,3,5]) (.seq (r [o 44 (.mv (.t 0)),o 45 (.fA 2 (.t 3)),o 46 (.ld (some 8) (.t 45)),o 47 (.mv (.t 5)),o 48 (.call 99 [(.t 44),(.t 46),(.t 47),(i 200)]),o 4 (.mv (.t 48))] [4]) .ret)))))),[.t 4]⟩
theorem core_looker_body_ok : cFn Tryz.prog (kps [[0,3],[0,3,26],[4],[0,3,5],[0,3,5,31,32],[0,3,5,31,32,33],[0,3,5,6,31,32],[0,3,5,31,32],[0,3,5,31,32],[0,3,5],[4]]) [] 78 = some core_looker_body_c := by kernel_rfl
abbrev slices_EqualFunc_Type_Value_Type_Value : Nat := 79
def slices_EqualFunc_Type_Value_Type_Value_c : MFn := ⟨32,(.seq (r [o 6 (.mv (.c (.bool false)))] [0,1,2]) (.seq (.seq (r [o 10 (.mv (.t 0)),o 11 (.lenS (.t 10)),o 12 (.mv (.t 1)),o 13 (.lenS (.t 12)),o 14 (.bin .neq (.t 11) (.t 13))] [0,1,2,14]) (.cond (.t 14) (.seq (r [o 6 (.mv (.c (.bool false)))] [6]) .ret) .skip)) (.seq (.seq (r [o 15 (.mv (.t 0)),o 16 (.lenS (.t 15)),o 17 (.mv (i 0))] [1,2,15,16,17]) (.block 0 (.loop (.seq (r [o 18 (.bin .lss (.t 17) (.t 16))] [1,2,15,16,17,18]) (.seq (.cond (.t 18) .skip (.exit 0)) (.seq (.block 1 (.seq (r [o 19 (.mv (.t 17)),o 20 (.ixA 2 (.t 15) (.t 17)),o 21 (.ld (some 2) (.t 20)),o 8 (.alloc [.int .i64 0,.nils]),o 7 (.mv (.t 19)),z (.st 2 (.t 8) (.t 21))] [1,2,7,8,15,16,17]) (.seq (r [o 22 (.mv (.t 1)),o 23 (.mv (.t 7)),o 24 (.ixA 3 (.t 22) (.t 23)),o 25 (.ld (some 3) (.t 24)),o 9 (.alloc zV),z (.st 3 (.t 9) (.t 25))] [1,2,8,9,15,16,17]) (.seq (r [o 26 (.mv (.t 2)),o 27 (.ld (some 2) (.t 8)),o 28 (.ld (some 3) (.t 9)),o 29 (.callV (.t 26) [(.t 27),(.t 28)]),o 30 (.un .not (.t 29))] [1,2,15,16,17,30]) (.cond (.t 30) (.seq (r [o 6 (.mv (.c (.bool false)))] [6]) .ret) .skip))))) (r [o 31 (.bin .add (.t 17) (i 1)),o 17 (.mv (.t 31))] [1,2,15,16,17]))))))) (.seq (r [o 6 (.mv (.c (.bool true)))] [6]) .ret)))),[.t 6]⟩
theorem slices_EqualFunc_Type_Value_Type_Value_ok : cFn Tryz.prog (kps [[0,1,2],[0,1,2,14],[6],[1,2,15,16,17],[1,2,15,16,17,18],[1,2,7,8,15,16,17],[1,2,8,9,15,16,17],[1,2,15,16,17,30],[6],[1,2,15,16,17],[6]]) [] 79 = some slices_EqualFunc_Type_Value_Type_Value_c := by kernel_rfl
abbrev play_Each : Nat := 81
def play_Each_c : MFn := ⟨89,(.seq (r [o 8 (.mv (.c .nils)),o 9 (.mv (.c (.bool false)))] [0,1,2,3]) (.seq (r [o 10 (.mv (.c .nils))] [0,1,2,3,10]) (.seq (r [o 13 (.mv (.t 2)),o 14 (.call 102 [(.t 13)]),o 11 (.mv (.t 14))] [0,1,2,3,10,11]) (.block 0 (.loop (.block 1 (.seq (r [o 15 (.mv (.t 0)),o 16 (.mv (.t 11)),o 17 (.call 102 [(.t 16)]),o 18 (.callV (.t 15) [(.t 17)]),o 12 (.mv (.t 18))] [0,1,2,3,10,11,12]) (.seq (.seq (r [o 19 (.mv (.t 12)),o 20 (.mv (.t 1)),o 21 (.call 103 [(.t 19),(.t 20)]),o 22 (.un .not (.t 21))] [0,1,2,3,10,11,12,22]) (.cond (.t 22) (.seq (r [o 8 (.mv (.c .nils)),o 9 (.mv (.c (.bool false)))] [8,9]) .ret) .skip)) (.seq (.seq (r [o 23 (.mv (.t 12)),o 24 (.fA 0 (.t 23)),o 25 (.fA 22 (.t 24)),o 26 (.fA 0 (.t 25)),o 27 (.ld none (.t 26)),o 28 (.bin .eql (.t 27) (i 4)),o 29 (.mv (.t 28)),y 30 29 (.mv (.t 12)),y 31 29 (.fA 0 (.t 30)),y 32 29 (.fA 27 (.t 31)),y 33 29 (.ld none (.t 32)),y 34 29 (.un .not (.t 33)),o 35 (.pick (.t 29) (.t 34) (.c (.bool false))),o 36 (.mv (.t 35)),y 37 36 (.mv (.t 12)),y 38 36 (.fA 0 (.t 37)),y 39 36 (.fA 17 (.t 38)),y 40 36 (.ld none (.t 39)),y 41 36 (.lenS (.t 40)),y 42 36 (.mv (.t 11)),y 43 36 (.lenS (.t 42)),y 44 36 (.bin .eql (.t 41) (.t 43)),o 45 (.pick (.t 36) (.t 44) (.c (.bool false)))] [0,1,2,3,10,11,12,45]) (.cond (.t 45) (.seq (r [o 46 (.mv (.t 11)),o 47 (.buildSl 1 1 [.int .i64 0] [(0,(i 0))]),o 48 (.app 1 8 (.t 46) (.t 47)),o 11 (.mv (.t 48))] [0,1,2,3,10,11]) (.exit 1)) .skip)) (.seq (.seq (r [o 49 (.mv (.t 12)),o 50 (.fA 0 (.t 49)),o 51 (.fA 22 (.t 50)),o 52 (.fA 0 (.t 51)),o 53 (.ld none (.t 52)),o 54 (.bin .neq (.t 53) (i 4))] [0,1,2,3,10,11,12,54]) (.cond (.t 54) (.seq (.seq (r [o 55 (.mv (.t 10)),o 56 (.lenS (.t 55)),o 57 (.mv (.t 3)),o 58 (.bin .geq (.t 56) (.t 57))] [0,1,2,3,10,11,12,58]) (.cond (.t 58) (.seq (r [o 8 (.mv (.c .nils)),o 9 (.mv (.c (.bool false)))] [8,9]) .ret) .skip)) (.seq (r [o 59 (.mv (.t 10)),o 60 (.mv (.t 12)),o 61 (.buildSl 1 1 [.nilp] [(0,(.t 60))]),o 62 (.app 1 8 (.t 59) (.t 61)),o 10 (.mv (.t 62))] [0,1,2,3,10,11,12]) (r [o 63 (.mv (.t 11)),o 64 (.mv (.t 12)),o 65 (.fA 0 (.t 64)),o 66 (.fA 17 (.t 65)),o 67 (.ld none (.t 66)),o 68 (.lenS (.t 67)),o 69 (.slc 1 (.t 63) none (some (.t 68)) none),o 11 (.mv (.t 69))] [0,1,2,3,10,11]))) (r [o 70 (.mv (.t 11)),o 71 (.mv (.t 11)),o 72 (.lenS (.t 71)),o 73 (.bin .sub (.t 72) (i 1)),o 74 (.slc 1 (.t 70) none (some (.t 73)) none),o 11 (.mv (.t 74))] [0,1,2,3,10,11]))) (.seq (.seq (r [o 75 (.mv (.t 11)),o 76 (.lenS (.t 75)),o 77 (.mv (.t 2)),o 78 (.lenS (.t 77)),o 79 (.bin .leq (.t 76) (.t 78))] [0,1,2,3,10,11,79]) (.cond (.t 79) (.seq (r [o 80 (.mv (.t 10)),o 8 (.mv (.t 80)),o 9 (.mv (.c (.bool true)))] [8,9]) .ret) .skip)) (r [o 81 (.mv (.t 11)),o 82 (.mv (.t 11)),o 83 (.lenS (.t 82)),o 84 (.bin .sub (.t 83) (i 1)),o 85 (.ixA 1 (.t 81) (.t 84)),o 86 (.ld none (.t 85)),o 87 (.bin .add (.t 86) (i 1)),o 88 (.ixA 1 (.t 81) (.t 84)),z (.st 1 (.t 88) (.t 87))] [0,1,2,3,10,11])))))))))))),[.t 8,.t 9]⟩
theorem play_Each_ok : cFn Tryz.prog (kps [[0,1,2,3],[0,1,2,3,10],[0,1,2,3,10,11],[0,1,2,3,10,11,12],[0,1,2,3,10,11,12,22],[8,9],[0,1,2,3,10,11,12,45],[0,1,2,3,10,11],[0,1,2,3,10,11,12,54],[0,1,2,3,10,11,12,58],[8,9],[0,1,2,3,10,11,12],[0,1,2,3,10,11],[0,1,2,3,10,11],[0,1,2,3,10,11,79],[8,9],[0,1,2,3,10,11]]) [] 81 = some play_Each_c := by kernel_rfl
abbrev play_All_1 : Nat := 82
def play_All_1_c : MFn := ⟨10,(.seq (r [o 4 (.mv (.c .nilp))] [0,1,2]) (.seq (r [o 5 (.ld (some 13) (.t 1)),o 6 (.ld none (.t 2)),o 7 (.mv (.t 0)),o 8 (.build [.nils,.nils,.int .i64 0,.int .i64 0,.int .i64 0,.int .i64 0,.int .i64 0,.int .i64 0,.int .i64 0,.nils,.nils,.nils,.int .i64 0,.int .i64 0,.bool false,.int .i64 0,.nils,.nils,.nils,.bool false,.nils,.nils,.int .i64 0,.int .i64 0,.int .i64 0,.int .i64 0,.nils,.bool false,.int .i64 0] [(0,13,(.t 5)),(13,1,(.t 6)),(14,1,(.c (.bool true))),(16,1,(.t 7))]),o 9 (.box (.t 8)),o 4 (.mv (.t 9))] [4]) .ret)),[.t 4]⟩
theorem play_All_1_ok : cFn Tryz.prog (kps [[0,1,2],[4]]) [] 82 = some play_All_1_c := by kernel_rfl
abbrev slices_IndexFunc_Term_Term : Nat := 97
def slices_IndexFunc_Term_Term_c : MFn := ⟨19,(.seq (r [o 4 (.mv (i 0))] [0,1]) (.seq (.seq (r [o 6 (.mv (.t 0)),o 7 (.lenS (.t 6)),o 8 (.mv (i 0))] [0,1,7,8]) (.block 0 (.loop (.seq (r [o 9 (.bin .lss (.t 8) (.t 7))] [0,1,7,8,9]) (.seq (.cond (.t 9) .skip (.exit 0)) (.seq (.block 1 (.seq (r [o 10 (.mv (.t 8)),o 5 (.mv (.t 10))] [0,1,5,7,8]) (.seq (r [o 11 (.mv (.t 1)),o 12 (.mv (.t 0)),o 13 (.mv (.t 5)),o 14 (.ixA 8 (.t 12) (.t 13)),o 15 (.ld (some 8) (.t 14)),o 16 (.callV (.t 11) [(.t 15)])] [0,1,5,7,8,16]) (.cond (.t 16) (.seq (r [o 17 (.mv (.t 5)),o 4 (.mv (.t 17))] [4]) .ret) .skip)))) (r [o 18 (.bin .add (.t 8) (i 1)),o 8 (.mv (.t 18))] [0,1,7,8]))))))) (.seq (r [o 4 (.mv (i (-1)))] [4]) .ret))),[.t 4]⟩
theorem slices_IndexFunc_Term_Term_ok : cFn Tryz.prog (kps [[0,1],[0,1,7,8],[0,1,7,8,9],[0,1,5,7,8],[0,1,5,7,8,16],[4],[0,1,7,8],[4]]) [] 97 = some slices_IndexFunc_Term_Term_c := by kernel_rfl
abbrev value_deep : Nat := 98
def value_deep_c : MFn := ⟨39,(.seq (r [o 2 (.box (.t 0)),o 3 (.box (.t 1)),o 4 (.mv (.c (.bool false)))] [2,3]) (.seq (.seq (r [o 5 (.ld none (.t 3)),o 6 (.bin .lss (.t 5) (i 1))] [2,3,6]) (.cond (.t 6) (.seq (r [o 4 (.mv (.c (.bool false)))] [4]) .ret) .skip)) (.seq (.seq (r [o 7 (.fA 0 (.t 2)),o 8 (.ld none (.t 7))] [2,3,8]) (.block 0 (.seq (.seq (r [o 10 (.bin .eql (.t 8) (i 1)),o 9 (.mv (.t 10))] [2,3,8,9]) (.cond (.t 9) .skip (r [o 11 (.bin .eql (.t 8) (i 2)),o 9 (.mv (.t 11))] [2,3,8,9]))) (.cond (.t 9) (.seq (r [o 12 (.fA 1 (.t 2)),o 13 (.ld none (.t 12)),o 14 (.lenS (.t 13)),o 15 (.bin .eql (.t 14) (i 0)),o 4 (.mv (.t 15))] [4]) .ret) (.seq (r [o 17 (.bin .eql (.t 8) (i 3)),o 16 (.mv (.t 17))] [2,3,8,16]) (.cond (.t 16) (.seq (r [o 18 (.fA 1 (.t 2)),o 19 (.ld none (.t 18)),o 20 (.lenS (.t 19)),o 21 (.bin .lss (.t 20) (i 2)),o 22 (.mv (.t 21)),n 23 22 (.fA 1 (.t 2)),n 24 22 (.ld none (.t 23)),n 25 22 (.lenS (.t 24)),n 26 22 (.bin .gtr (.t 25) (i 4)),o 27 (.pick (.t 22) (.c (.bool true)) (.t 26))] [2,3,27]) (.cond (.t 27) (.seq (r [o 4 (.mv (.c (.bool false)))] [4]) .ret) .skip)) (.seq (r [o 29 (.bin .eql (.t 8) (i 4)),o 28 (.mv (.t 29))] [2,3,28]) (.cond (.t 28) (.seq (r [o 30 (.fA 1 (.t 2)),o 31 (.ld none (.t 30)),o 32 (.lenS (.t 31)),o 33 (.bin .neq (.t 32) (i 1))] [2,3,33]) (.cond (.t 33) (.seq (r [o 4 (.mv (.c (.bool false)))] [4]) .ret) .skip)) (.seq (r [o 4 (.mv (.c (.bool false)))] [4]) .ret))))))))) (.seq (r [o 34 (.fA 1 (.t 2)),o 35 (.ld none (.t 34)),o 36 (.mkF 116 [(.t 3)]),o 37 (.call 115 [(.t 35),(.t 36)]),o 38 (.un .not (.t 37)),o 4 (.mv (.t 38))] [4]) .ret)))),[.t 4]⟩
theorem value_deep_ok : cFn Tryz.prog (kps [[2,3],[2,3,6],[4],[2,3,8],[4],[2,3,8,9],[2,3,8,9],[4],[2,3,8,16],[2,3,27],[4],[2,3,28],[2,3,33],[4],[4]]) [] 98 = some value_deep_c := by kernel_rfl
abbrev core_looker_right : Nat := 99
def core_looker_right_c : MFn := ⟨195,(.seq (r [o 5 (.box (.t 1)),o 8 (.mv (.c (.bool false)))] [0,2,3,5]) (.seq (.seq (r [o 16 (.mv (.t 3)),o 17 (.bin .lss (.t 16) (i 1)),o 18 (.mv (.t 17)),n 19 18 (.mv (.t 0)),n 20 18 (.ld (some 8) (.t 5)),n 21 18 (.rd2 (.fn 117) [(.t 19),(.t 20)]),n 22 18 (.fA 7 (.t 5)),n 23 18 (.ld none (.t 22)),n 24 18 (.lenS (.t 23)),n 25 18 (.bin .neq (.t 21) (.t 24)),o 26 (.pick (.t 18) (.c (.bool true)) (.t 25))] [0,2,3,5,26]) (.cond (.t 26) (.seq (r [o 8 (.mv (.c (.bool false)))] [8]) .ret) .skip)) (.seq (r [o 27 (.mv (.t 2)),o 9 (.mv (.t 27)),o 10 (.mv (i 0)),o 11 (.mv (i 0))] [0,2,3,5,9,10,11]) (.seq (.seq (r [o 28 (.fA 0 (.t 5)),o 29 (.ld none (.t 28))] [0,2,3,5,9,10,11,29]) (.block 0 (.seq (r [o 31 (.bin .eql (.t 29) (i 1)),o 30 (.mv (.t 31))] [0,2,3,5,9,10,11,29,30]) (.cond (.t 30) (.seq (r [o 32 (.fA 3 (.t 5)),o 33 (.ld (some 3) (.t 32)),o 34 (.call 118 [(.t 33)]),o 8 (.mv (.t 34))] [8]) .ret) (.seq (r [o 36 (.bin .eql (.t 29) (i 2)),o 35 (.mv (.t 36))] [0,2,3,5,9,10,11,29,35]) (.cond (.t 35) (.seq (r [o 37 (.fA 1 (.t 5)),o 38 (.ld none (.t 37)),o 39 (.bin .geq (.t 38) (i 0)),o 40 (.mv (.t 39)),y 41 40 (.fA 1 (.t 5)),y 42 40 (.ld none (.t 41)),y 43 40 (.mv (.t 0)),y 44 40 (.fA 0 (.t 43)),y 45 40 (.fA 13 (.t 44)),y 46 40 (.ld none (.t 45)),y 47 40 (.bin .lss (.t 42) (.t 46)),o 48 (.pick (.t 40) (.t 47) (.c (.bool false))),o 49 (.mv (.t 48)),y 50 49 (.mv (.t 2)),y 51 49 (.fA 1 (.t 5)),y 52 49 (.ld none (.t 51)),y 53 49 (.ixA 1 (.t 50) (.t 52)),y 54 49 (.ld none (.t 53)),o 55 (.pick (.t 49) (.t 54) (.c (.bool false))),o 8 (.mv (.t 55))] [8]) .ret) (.seq (r [o 57 (.bin .eql (.t 29) (i 7)),o 56 (.mv (.t 57))] [0,2,3,5,9,10,11,29,56]) (.cond (.t 56) (.seq (r [o 58 (.fA 1 (.t 5)),o 59 (.ld none (.t 58)),o 60 (.fA 2 (.t 5)),o 61 (.ld none (.t 60)),o 10 (.mv (.t 59)),o 11 (.mv (.t 61))] [0,2,3,5,9,10,11]) (.seq (r [o 62 (.mv (.t 11)),o 63 (.bin .lss (.t 62) (i 1)),o 64 (.mv (.t 63)),n 65 64 (.mv (.t 11)),n 66 64 (.bin .gtr (.t 65) (i 4)),o 67 (.pick (.t 64) (.c (.bool true)) (.t 66))] [0,2,3,5,9,10,11,67]) (.cond (.t 67) (.seq (r [o 8 (.mv (.c (.bool false)))] [8]) .ret) .skip))) (.seq (r [o 69 (.bin .eql (.t 29) (i 9)),o 68 (.mv (.t 69))] [0,2,3,5,9,10,11,29,68]) (.cond (.t 68) (r [o 70 (.fA 1 (.t 5)),o 71 (.ld none (.t 70)),o 10 (.mv (.t 71)),o 11 (.mv (i 2))] [0,2,3,5,9,10,11]) (.seq (r [o 73 (.bin .eql (.t 29) (i 11)),o 72 (.mv (.t 73))] [0,2,3,5,9,10,11,29,72]) (.cond (.t 72) (.seq (r [o 74 (.fA 6 (.t 5)),o 75 (.ld none (.t 74)),o 76 (.lenS (.t 75)),o 77 (.bin .neq (.t 76) (i 2)),o 78 (.mv (.t 77)),n 79 78 (.fA 6 (.t 5)),n 80 78 (.ld none (.t 79)),n 81 78 (.ixA 1 (.t 80) (i 0)),n 82 78 (.ld none (.t 81)),n 83 78 (.bin .lss (.t 82) (i 0)),o 84 (.pick (.t 78) (.c (.bool true)) (.t 83)),o 85 (.mv (.t 84)),n 86 85 (.fA 6 (.t 5)),n 87 85 (.ld none (.t 86)),n 88 85 (.ixA 1 (.t 87) (i 0)),n 89 85 (.ld none (.t 88)),n 90 85 (.fA 6 (.t 5)),n 91 85 (.ld none (.t 90)),n 92 85 (.ixA 1 (.t 91) (i 1)),n 93 85 (.ld none (.t 92)),n 94 85 (.bin .gtr (.t 89) (.t 93)),o 95 (.pick (.t 85) (.c (.bool true)) (.t 94)),o 96 (.mv (.t 95)),n 97 96 (.fA 6 (.t 5)),n 98 96 (.ld none (.t 97)),n 99 96 (.ixA 1 (.t 98) (i 1)),n 100 96 (.ld none (.t 99)),n 101 96 (.bin .lss (.t 100) (i 1)),o 102 (.pick (.t 96) (.c (.bool true)) (.t 101)),o 103 (.mv (.t 102)),n 104 103 (.fA 6 (.t 5)),n 105 103 (.ld none (.t 104)),n 106 103 (.ixA 1 (.t 105) (i 1)),n 107 103 (.ld none (.t 106)),n 108 103 (.bin .gtr (.t 107) (i 1000)),o 109 (.pick (.t 103) (.c (.bool true)) (.t 108))] [0,2,3,5,9,10,11,109]) (.cond (.t 109) (.seq (r [o 8 (.mv (.c (.bool false)))] [8]) .ret) .skip)) (.seq (r [o 111 (.bin .eql (.t 29) (i 12)),o 110 (.mv (.t 111))] [0,2,3,5,9,10,11,110]) (.cond (.t 110) (.seq (r [o 112 (.fA 6 (.t 5)),o 113 (.ld none (.t 112)),o 114 (.lenS (.t 113)),o 115 (.fA 7 (.t 5)),o 116 (.ld none (.t 115)),o 117 (.lenS (.t 116)),o 118 (.bin .neq (.t 114) (.t 117)),o 119 (.mv (.t 118)),n 120 119 (.fA 1 (.t 5)),n 121 119 (.ld none (.t 120)),n 122 119 (.bin .lss (.t 121) (i 0)),o 123 (.pick (.t 119) (.c (.bool true)) (.t 122)),o 124 (.mv (.t 123)),n 125 124 (.fA 1 (.t 5)),n 126 124 (.ld none (.t 125)),n 127 124 (.mv (.t 0)),n 128 124 (.fA 0 (.t 127)),n 129 124 (.fA 0 (.t 128)),n 130 124 (.fA 12 (.t 129)),n 131 124 (.ld none (.t 130)),n 132 124 (.bin .geq (.t 126) (.t 131)),o 133 (.pick (.t 124) (.c (.bool true)) (.t 132)),o 134 (.mv (.t 133)),n 135 134 (.fA 6 (.t 5)),n 136 134 (.ld none (.t 135)),n 137 134 (.callF 119 [(.t 136),(.c (.clo 120 []))]),o 138 (.pick (.t 134) (.c (.bool true)) (.t 137))] [0,2,3,5,9,10,11,138]) (.cond (.t 138) (.seq (r [o 8 (.mv (.c (.bool false)))] [8]) .ret) .skip)) .skip)))))))))))))) (.seq (.seq (r [o 139 (.mv (.t 11)),o 140 (.bin .gtr (.t 139) (i 0))] [0,2,3,5,9,10,11,140]) (.cond (.t 140) (.seq (.seq (r [o 141 (.mv (.t 10)),o 142 (.bin .lss (.t 141) (i 0)),o 143 (.mv (.t 142)),n 144 143 (.mv (.t 10)),n 145 143 (.mv (.t 0)),n 146 143 (.fA 0 (.t 145)),n 147 143 (.fA 13 (.t 146)),n 148 143 (.ld none (.t 147)),n 149 143 (.mv (.t 11)),n 150 143 (.bin .sub (.t 148) (.t 149)),n 151 143 (.bin .gtr (.t 144) (.t 150)),o 152 (.pick (.t 143) (.c (.bool true)) (.t 151))] [0,2,3,5,10,11,152]) (.cond (.t 152) (.seq (r [o 8 (.mv (.c (.bool false)))] [8]) .ret) .skip)) (.seq (r [o 153 (.mv (.t 2)),o 154 (.call 121 [(.t 153)]),o 9 (.mv (.t 154))] [0,2,3,5,9,10,11]) (.seq (r [o 155 (.mv (.t 11)),o 156 (.mv (i 0))] [0,2,3,5,9,10,155,156]) (.block 1 (.loop (.seq (r [o 157 (.bin .lss (.t 156) (.t 155))] [0,2,3,5,9,10,155,156,157]) (.seq (.cond (.t 157) .skip (.exit 1)) (.seq (.block 2 (.seq (r [o 158 (.mv (.t 156)),o 12 (.mv (.t 158))] [0,2,3,5,9,10,12,155,156]) (.seq (.seq (r [o 159 (.mv (.t 2)),o 160 (.mv (.t 10)),o 161 (.mv (.t 12)),o 162 (.bin .add (.t 160) (.t 161)),o 163 (.ixA 1 (.t 159) (.t 162)),o 164 (.ld none (.t 163))] [0,2,3,5,9,10,12,155,156,164]) (.cond (.t 164) (.seq (r [o 8 (.mv (.c (.bool false)))] [8]) .ret) .skip)) (r [o 165 (.mv (.t 9)),o 166 (.mv (.t 10)),o 167 (.mv (.t 12)),o 168 (.bin .add (.t 166) (.t 167)),o 169 (.ixA 1 (.t 165) (.t 168)),z (.st 1 (.t 169) (.c (.bool true)))] [0,2,3,5,9,10,155,156])))) (r [o 170 (.bin .add (.t 156) (i 1)),o 156 (.mv (.t 170))] [0,2,3,5,9,10,155,156]))))))))) .skip)) (.seq (.seq (r [o 171 (.fA 7 (.t 5)),o 172 (.ld none (.t 171)),o 173 (.lenS (.t 172)),o 174 (.mv (i 0))] [0,2,3,5,9,172,173,174]) (.block 3 (.loop (.seq (r [o 175 (.bin .lss (.t 174) (.t 173))] [0,2,3,5,9,172,173,174,175]) (.seq (.cond (.t 175) .skip (.exit 3)) (.seq (.block 4 (.seq (r [o 176 (.mv (.t 174)),o 177 (.ixA 8 (.t 172) (.t 174)),o 178 (.ld (some 8) (.t 177)),o 14 (.alloc [.int .i64 0,.int .i64 0,.int .i64 0,.int .i64 0,.int .i64 0,.nils,.nils,.nils]),o 13 (.mv (.t 176)),z (.st 8 (.t 14) (.t 178))] [0,2,3,5,9,13,14,172,173,174]) (.seq (r [o 179 (.mv (.t 2)),o 15 (.mv (.t 179))] [0,2,3,5,9,13,14,15,172,173,174]) (.seq (.seq (r [o 180 (.mv (.t 13)),o 181 (.fA 7 (.t 5)),o 182 (.ld none (.t 181)),o 183 (.lenS (.t 182)),o 184 (.bin .sub (.t 183) (i 1)),o 185 (.bin .eql (.t 180) (.t 184))] [0,2,3,5,9,14,15,172,173,174,185]) (.cond (.t 185) (r [o 186 (.mv (.t 9)),o 15 (.mv (.t 186))] [0,2,3,5,9,14,15,172,173,174]) .skip)) (.seq (r [o 187 (.mv (.t 0)),o 188 (.ld (some 8) (.t 14)),o 189 (.mv (.t 15)),o 190 (.mv (.t 3)),o 191 (.bin .sub (.t 190) (i 1)),o 192 (.call 99 [(.t 187),(.t 188),(.t 189),(.t 191)]),o 193 (.un .not (.t 192))] [0,2,3,5,9,172,173,174,193]) (.cond (.t 193) (.seq (r [o 8 (.mv (.c (.bool false)))] [8]) .ret) .skip)))))) (r [o 194 (.bin .add (.t 174) (i 1)),o 174 (.mv (.t 194))] [0,2,3,5,9,172,173,174]))))))) (.seq (r [o 8 (.mv (.c (.bool true)))] [8]) .ret))))))),[.t 8]⟩
theorem core_looker_right_ok : cFn Tryz.prog (kps [[0,2,3,5],[0,2,3,5,26],[8],[0,2,3,5,9,10,11],[0,2,3,5,9,10,11,29],[0,2,3,5,9,10,11,29,30],[8],[0,2,3,5,9,10,11,29,35],[8],[0,2,3,5,9,10,11,29,56],[0,2,3,5,9,10,11],[0,2,3,5,9,10,11,67],[8],[0,2,3,5,9,10,11,29,68],[0,2,3,5,9,10,11],[0,2,3,5,9,10,11,29,72],[0,2,3,5,9,10,11,109],[8],[0,2,3,5,9,10,11,110],[0,2,3,5,9,10,11,138],[8],[0,2,3,5,9,10,11,140],[0,2,3,5,10,11,152],[8],[0,2,3,5,9,10,11],[0,2,3,5,9,10,155,156],[0,2,3,5,9,10,155,156,157],[0,2,3,5,9,10,12,155,156],[0,2,3,5,9,10,12,155,156,164],[8],[0,2,3,5,9,10,155,156],[0,2,3,5,9,10,155,156],[0,2,3,5,9,172,173,174],[0,2,3,5,9,172,173,174,175],[0,2,3,5,9,13,14,172,173,174],[0,2,3,5,9,13,14,15,172,173,174],[0,2,3,5,9,14,15,172,173,174,185],[0,2,3,5,9,14,15,172,173,174],[0,2,3,5,9,172,173,174,193],[8],[0,2,3,5,9,172,173,174],[8]]) [1001] 99 = some core_looker_right_c := by kernel_rfl
abbrev value_has : Nat := 100
def value_has_c : MFn := ⟨72,(.seq (r [o 2 (.box (.t 0)),o 3 (.box (.t 1)),o 4 (.mv (.c (.bool false)))] [2,3]) (.seq (.seq (r [o 5 (.fA 0 (.t 3)),o 6 (.ld none (.t 5)),o 7 (.fA 0 (.t 2)),o 8 (.ld none (.t 7)),o 9 (.bin .neq (.t 6) (.t 8))] [2,3,9]) (.cond (.t 9) (.seq (r [o 4 (.mv (.c (.bool false)))] [4]) .ret) .skip)) (.seq (.seq (r [o 10 (.fA 0 (.t 2)),o 11 (.ld none (.t 10))] [2,3,11]) (.block 0 (.seq (r [o 13 (.bin .eql (.t 11) (i 1)),o 12 (.mv (.t 13))] [2,3,11,12]) (.cond (.t 12) (.seq (r [o 14 (.fA 1 (.t 3)),o 15 (.ld none (.t 14)),o 16 (.bin .eql (.t 15) (i 0)),o 17 (.mv (.t 16)),n 18 17 (.fA 1 (.t 3)),n 19 17 (.ld none (.t 18)),n 20 17 (.bin .eql (.t 19) (i 1)),o 21 (.pick (.t 17) (.c (.bool true)) (.t 20)),o 22 (.mv (.t 21)),y 23 22 (.fA 2 (.t 3)),y 24 22 (.ld none (.t 23)),y 25 22 (.lenS (.t 24)),y 26 22 (.bin .eql (.t 25) (i 0)),o 27 (.pick (.t 22) (.t 26) (.c (.bool false))),o 4 (.mv (.t 27))] [4]) .ret) (.seq (r [o 29 (.bin .eql (.t 11) (i 2)),o 28 (.mv (.t 29))] [2,3,11,28]) (.cond (.t 28) (.seq (r [o 30 (.fA 1 (.t 3)),o 31 (.ld none (.t 30)),o 32 (.bin .geq (.t 31) (i (-2147483648))),o 33 (.mv (.t 32)),y 34 33 (.fA 1 (.t 3)),y 35 33 (.ld none (.t 34)),y 36 33 (.bin .leq (.t 35) (i 2147483647)),o 37 (.pick (.t 33) (.t 36) (.c (.bool false))),o 38 (.mv (.t 37)),y 39 38 (.fA 2 (.t 3)),y 40 38 (.ld none (.t 39)),y 41 38 (.lenS (.t 40)),y 42 38 (.bin .eql (.t 41) (i 0)),o 43 (.pick (.t 38) (.t 42) (.c (.bool false))),o 4 (.mv (.t 43))] [4]) .ret) (.seq (r [o 45 (.bin .eql (.t 11) (i 3)),o 44 (.mv (.t 45))] [2,3,44]) (.cond (.t 44) (.seq (r [o 46 (.fA 1 (.t 3)),o 47 (.ld none (.t 46)),o 48 (.bin .eql (.t 47) (i 0)),o 49 (.mv (.t 48)),y 50 49 (.fA 1 (.t 2)),y 51 49 (.ld none (.t 50)),y 52 49 (.fA 2 (.t 3)),y 53 49 (.ld none (.t 52)),y 54 49 (.call 79 [(.t 51),(.t 53),(.c (.clo 100 []))]),o 55 (.pick (.t 49) (.t 54) (.c (.bool false))),o 4 (.mv (.t 55))] [4]) .ret) .skip)))))))) (.seq (r [o 56 (.fA 1 (.t 3)),o 57 (.ld none (.t 56)),o 58 (.bin .eql (.t 57) (i 0)),o 59 (.mv (.t 58)),y 60 59 (.fA 2 (.t 3)),y 61 59 (.ld none (.t 60)),y 62 59 (.lenS (.t 61)),y 63 59 (.bin .leq (.t 62) (i 32)),o 64 (.pick (.t 59) (.t 63) (.c (.bool false))),o 65 (.mv (.t 64)),y 66 65 (.fA 2 (.t 3)),y 67 65 (.ld none (.t 66)),y 68 65 (.mkF 123 [(.t 2)]),y 69 65 (.call 122 [(.t 67),(.t 68)]),y 70 65 (.un .not (.t 69)),o 71 (.pick (.t 65) (.t 70) (.c (.bool false))),o 4 (.mv (.t 71))] [4]) .ret)))),[.t 4]⟩
theorem value_has_ok : cFn Tryz.prog (kps [[2,3],[2,3,9],[4],[2,3,11],[2,3,11,12],[4],[2,3,11,28],[4],[2,3,44],[4],[4]]) [] 100 = some value_has_c := by kernel_rfl
abbrev value_Size : Nat := 101
def value_Size_c : MFn := ⟨22,(.seq (r [o 1 (.box (.t 0)),o 2 (.mv (i 0))] [1]) (.seq (r [o 3 (.mv (i 1))] [1,3]) (.seq (.seq (r [o 6 (.fA 2 (.t 1)),o 7 (.ld none (.t 6)),o 8 (.lenS (.t 7)),o 9 (.mv (i 0))] [3,7,8,9]) (.block 0 (.loop (.seq (r [o 10 (.bin .lss (.t 9) (.t 8))] [3,7,8,9,10]) (.seq (.cond (.t 10) .skip (.exit 0)) (.seq (.block 1 (.seq (r [o 11 (.ixA 3 (.t 7) (.t 9)),o 12 (.ld (some 3) (.t 11)),o 5 (.alloc zV),z (.st 3 (.t 5) (.t 12))] [3,5,7,8,9]) (.seq (r [o 13 (.mv (.t 3)),o 14 (.ld (some 3) (.t 5)),o 15 (.call 101 [(.t 14)]),o 16 (.bin .add (.t 13) (.t 15)),o 17 (.min2 (.t 16) (i 1001)),o 3 (.mv (.t 17))] [3,7,8,9]) (.seq (r [o 18 (.mv (.t 3)),o 19 (.bin .gtr (.t 18) (i 1000))] [3,7,8,9,19]) (.cond (.t 19) (.exit 0) .skip))))) (r [o 20 (.bin .add (.t 9) (i 1)),o 9 (.mv (.t 20))] [3,7,8,9]))))))) (.seq (r [o 21 (.mv (.t 3)),o 2 (.mv (.t 21))] [2]) .ret)))),[.t 2]⟩
theorem value_Size_ok : cFn Tryz.prog (kps [[1],[1,3],[3,7,8,9],[3,7,8,9,10],[3,5,7,8,9],[3,7,8,9],[3,7,8,9,19],[3,7,8,9],[2]]) [] 101 = some value_Size_c := by kernel_rfl
abbrev slices_Clone_Sint_int : Nat := 102
def slices_Clone_Sint_int_c : MFn := ⟨8,(.seq (r [o 2 (.mv (.c .nils))] [0]) (.seq (.seq (r [o 3 (.mv (.t 0)),o 4 (.binS .eql (.t 3) (.c .nils))] [0,4]) (.cond (.t 4) (.seq (r [o 2 (.mv (.c .nils))] [2]) .ret) .skip)) (.seq (r [o 5 (.buildSl 1 0 [.int .i64 0] []),o 6 (.mv (.t 0)),o 7 (.app 1 8 (.t 5) (.t 6)),o 2 (.mv (.t 7))] [2]) .ret))),[.t 2]⟩
theorem slices_Clone_Sint_int_ok : cFn Tryz.prog (kps [[0],[0,4],[2],[2]]) [] 102 = some slices_Clone_Sint_int_c := by kernel_rfl
abbrev slices_ContainsFunc_Type_Type : Nat := 115
def slices_ContainsFunc_Type_Type_c : MFn := ⟨9,(.seq (r [o 4 (.mv (.c (.bool false)))] [0,1]) (.seq (r [o 5 (.mv (.t 0)),o 6 (.mv (.t 1)),o 7 (.call 130 [(.t 5),(.t 6)]),o 8 (.bin .geq (.t 7) (i 0)),o 4 (.mv (.t 8))] [4]) .ret)),[.t 4]⟩
theorem slices_ContainsFunc_Type_Type_ok : cFn Tryz.prog (kps [[0,1],[4]]) [] 115 = some slices_ContainsFunc_Type_Type_c := by kernel_rfl
abbrev value_deep_1 : Nat := 116
def value_deep_1_c : MFn := ⟨9,(.seq (r [o 2 (.box (.t 0)),o 3 (.mv (.c (.bool false)))] [1,2]) (.seq (r [o 4 (.ld (some 2) (.t 2)),o 5 (.ld none (.t 1)),o 6 (.bin .sub (.t 5) (i 1)),o 7 (.call 98 [(.t 4),(.t 6)]),o 8 (.un .not (.t 7)),o 3 (.mv (.t 8))] [3]) .ret)),[.t 3]⟩
theorem value_deep_1_ok : cFn Tryz.prog (kps [[1,2],[3]]) [] 116 = some value_deep_1_c := by kernel_rfl
abbrev core_looker_kids : Nat := 117
def core_looker_kids_c : MFn := ⟨79,(.seq (r [o 3 (.box (.t 1)),o 4 (.mv (i 0))] [0,3]) (.seq (.seq (r [o 5 (.fA 0 (.t 3)),o 6 (.ld none (.t 5))] [0,3,6]) (.block 0 (.seq (.seq (r [o 8 (.bin .eql (.t 6) (i 1)),o 7 (.mv (.t 8))] [0,3,6,7]) (.cond (.t 7) .skip (r [o 9 (.bin .eql (.t 6) (i 2)),o 7 (.mv (.t 9))] [0,3,6,7]))) (.cond (.t 7) (.seq (r [o 4 (.mv (i 0))] [4]) .ret) (.seq (r [o 11 (.bin .eql (.t 6) (i 3)),o 10 (.mv (.t 11))] [0,3,6,10]) (.cond (.t 10) (.seq (.seq (r [o 12 (.fA 1 (.t 3)),o 13 (.ld none (.t 12)),o 14 (.bin .lss (.t 13) (i 0)),o 15 (.mv (.t 14)),n 16 15 (.fA 1 (.t 3)),n 17 15 (.ld none (.t 16)),n 18 15 (.mv (.t 0)),n 19 15 (.fA 0 (.t 18)),n 20 15 (.fA 0 (.t 19)),n 21 15 (.fA 1 (.t 20)),n 22 15 (.ld none (.t 21)),n 23 15 (.lenS (.t 22)),n 24 15 (.bin .geq (.t 17) (.t 23)),o 25 (.pick (.t 15) (.c (.bool true)) (.t 24))] [0,3,25]) (.cond (.t 25) (.seq (r [o 4 (.mv (i (-2)))] [4]) .ret) .skip)) (.seq (r [o 26 (.mv (.t 0)),o 27 (.fA 0 (.t 26)),o 28 (.fA 0 (.t 27)),o 29 (.fA 1 (.t 28)),o 30 (.ld none (.t 29)),o 31 (.fA 1 (.t 3)),o 32 (.ld none (.t 31)),o 33 (.ixA 10 (.t 30) (.t 32)),o 34 (.fA 0 (.t 33)),o 35 (.ld none (.t 34)),o 4 (.mv (.t 35))] [4]) .ret)) (.seq (r [o 37 (.bin .eql (.t 6) (i 4)),o 36 (.mv (.t 37))] [3,6,36]) (.cond (.t 36) (.seq (r [o 38 (.fA 7 (.t 3)),o 39 (.ld none (.t 38)),o 40 (.lenS (.t 39)),o 41 (.rd2 .mx [(.t 40),(i 2)]),o 42 (.min2 (.t 41) (i 4)),o 4 (.mv (.t 42))] [4]) .ret) (.seq (r [o 44 (.bin .eql (.t 6) (i 5)),o 43 (.mv (.t 44))] [3,6,43]) (.cond (.t 43) (.seq (r [o 45 (.fA 7 (.t 3)),o 46 (.ld none (.t 45)),o 47 (.lenS (.t 46)),o 48 (.min2 (.t 47) (i 32)),o 4 (.mv (.t 48))] [4]) .ret) (.seq (r [o 50 (.bin .eql (.t 6) (i 6)),o 49 (.mv (.t 50))] [3,6,49]) (.cond (.t 49) (.seq (.block 1 (.seq (r [o 52 (.fA 1 (.t 3)),o 53 (.ld none (.t 52)),o 54 (.bin .lss (.t 53) (i 1)),o 55 (.mv (.t 54)),n 56 55 (.fA 1 (.t 3)),n 57 55 (.ld none (.t 56)),n 58 55 (.bin .gtr (.t 57) (i 13)),o 59 (.pick (.t 55) (.c (.bool true)) (.t 58)),o 51 (.mv (.t 59))] [3,51]) (.cond (.t 51) (.seq (r [o 4 (.mv (i (-2)))] [4]) .ret) (.seq (r [o 61 (.fA 1 (.t 3)),o 62 (.ld none (.t 61)),o 63 (.bin .geq (.t 62) (i 12)),o 60 (.mv (.t 63))] [60]) (.cond (.t 60) (.seq (r [o 4 (.mv (i 1))] [4]) .ret) .skip))))) (.seq (r [o 4 (.mv (i 2))] [4]) .ret)) (.seq (.seq (r [o 65 (.bin .eql (.t 6) (i 7)),o 64 (.mv (.t 65))] [3,6,64]) (.cond (.t 64) .skip (r [o 66 (.bin .eql (.t 6) (i 10)),o 64 (.mv (.t 66))] [3,6,64]))) (.cond (.t 64) (.seq (r [o 4 (.mv (i 2))] [4]) .ret) (.seq (.seq (r [o 68 (.bin .eql (.t 6) (i 8)),o 67 (.mv (.t 68))] [3,6,67]) (.cond (.t 67) .skip (r [o 69 (.bin .eql (.t 6) (i 9)),o 67 (.mv (.t 69))] [3,6,67]))) (.cond (.t 67) (.seq (r [o 4 (.mv (i 3))] [4]) .ret) (.seq (r [o 71 (.bin .eql (.t 6) (i 11)),o 70 (.mv (.t 71))] [3,6,70]) (.cond (.t 70) (.seq (r [o 4 (.mv (i 1))] [4]) .ret) (.seq (r [o 73 (.bin .eql (.t 6) (i 12)),o 72 (.mv (.t 73))] [3,72]) (.cond (.t 72) (.seq (r [o 74 (.fA 6 (.t 3)),o 75 (.ld none (.t 74)),o 76 (.lenS (.t 75)),o 77 (.rd2 .mx [(.t 76),(i 1)]),o 78 (.min2 (.t 77) (i 64)),o 4 (.mv (.t 78))] [4]) .ret) .skip)))))))))))))))))))) (.seq (r [o 4 (.mv (i (-2)))] [4]) .ret))),[.t 4]⟩
theorem core_looker_kids_ok : cFn Tryz.prog (kps [[0,3],[0,3,6],[0,3,6,7],[0,3,6,7],[4],[0,3,6,10],[0,3,25],[4],[4],[3,6,36],[4],[3,6,43],[4],[3,6,49],[3,51],[4],[60],[4],[4],[3,6,64],[3,6,64],[4],[3,6,67],[3,6,67],[4],[3,6,70],[4],[3,72],[4],[4]]) [] 117 = some core_looker_kids_c := by kernel_rfl
abbrev value_Right : Nat := 118
def value_Right_c : MFn := ⟨21,(.seq (r [o 1 (.box (.t 0)),o 2 (.mv (.c (.bool false)))] [1]) (.seq (r [o 6 (.ld (some 3) (.t 1)),o 7 (.call 131 [(.t 6),(i 40)]),o 5 (.mv (.t 7)),o 8 (.ext (.t 5) 0),o 9 (.ext (.t 5) 1),o 3 (.alloc [.int .i64 0,.nils]),z (.st 2 (.t 3) (.t 8)),o 4 (.mv (.t 9))] [1,3,4]) (.seq (r [o 10 (.mv (.t 4)),o 11 (.mv (.t 10)),y 12 11 (.ld (some 2) (.t 3)),y 13 11 (.call 132 [(.t 12)]),y 14 11 (.call 77 [(.t 13)]),o 15 (.pick (.t 11) (.t 14) (.c (.bool false))),o 16 (.mv (.t 15)),y 17 16 (.ld (some 3) (.t 1)),y 18 16 (.call 101 [(.t 17)]),y 19 16 (.bin .leq (.t 18) (i 1000)),o 20 (.pick (.t 16) (.t 19) (.c (.bool false))),o 2 (.mv (.t 20))] [2]) .ret))),[.t 2]⟩
theorem value_Right_ok : cFn Tryz.prog (kps [[1],[1,3,4],[2]]) [] 118 = some value_Right_c := by kernel_rfl
abbrev slices_ContainsFunc_Sint_int : Nat := 119
def slices_ContainsFunc_Sint_int_c : MFn := ⟨9,(.seq (r [o 4 (.mv (.c (.bool false)))] [0,1]) (.seq (r [o 5 (.mv (.t 0)),o 6 (.mv (.t 1)),o 7 (.call 133 [(.t 5),(.t 6)]),o 8 (.bin .geq (.t 7) (i 0)),o 4 (.mv (.t 8))] [4]) .ret)),[.t 4]⟩
theorem slices_ContainsFunc_Sint_int_ok : cFn Tryz.prog (kps [[0,1],[4]]) [] 119 = some slices_ContainsFunc_Sint_int_c := by kernel_rfl
abbrev core_looker_right_1 : Nat := 120
def core_looker_right_1_c : MFn := ⟨9,(.seq (r [o 2 (.mv (.c (.bool false)))] [0]) (.seq (r [o 3 (.mv (.t 0)),o 4 (.bin .lss (.t 3) (i 1)),o 5 (.mv (.t 4)),n 6 5 (.mv (.t 0)),n 7 5 (.bin .gtr (.t 6) (i 1000)),o 8 (.pick (.t 5) (.c (.bool true)) (.t 7)),o 2 (.mv (.t 8))] [2]) .ret)),[.t 2]⟩
theorem core_looker_right_1_ok : cFn Tryz.prog (kps [[0],[2]]) [] 120 = some core_looker_right_1_c := by kernel_rfl
abbrev slices_ContainsFunc_Value_Value : Nat := 122
def slices_ContainsFunc_Value_Value_c : MFn := ⟨9,(.seq (r [o 4 (.mv (.c (.bool false)))] [0,1]) (.seq (r [o 5 (.mv (.t 0)),o 6 (.mv (.t 1)),o 7 (.call 134 [(.t 5),(.t 6)]),o 8 (.bin .geq (.t 7) (i 0)),o 4 (.mv (.t 8))] [4]) .ret)),[.t 4]⟩
theorem slices_ContainsFunc_Value_Value_ok : cFn Tryz.prog (kps [[0,1],[4]]) [] 122 = some slices_ContainsFunc_Value_Value_c := by kernel_rfl
abbrev value_has_1 : Nat := 123
def value_has_1_c : MFn := ⟨11,(.seq (r [o 2 (.box (.t 0)),o 3 (.mv (.c (.bool false)))] [1,2]) (.seq (r [o 4 (.fA 1 (.t 1)),o 5 (.ld none (.t 4)),o 6 (.ixA 2 (.t 5) (i 0)),o 7 (.ld (some 2) (.t 6)),o 8 (.ld (some 3) (.t 2)),o 9 (.callF 100 [(.t 7),(.t 8)]),o 10 (.un .not (.t 9)),o 3 (.mv (.t 10))] [3]) .ret)),[.t 3]⟩
theorem value_has_1_ok : cFn Tryz.prog (kps [[1,2],[3]]) [] 123 = some value_has_1_c := by kernel_rfl
abbrev play_Player_term : Nat := 125
def play_Player_term_c : MFn := ⟨127,(.seq (r [o 5 (.box (.t 1)),o 8 (.alloc zV)] [0,2,3,5,8]) (.seq (r [o 9 (.mv (.t 0)),o 10 (.call 135 [(.t 9),(i 1)])] [0,2,3,5,8]) (.seq (.seq (r [o 11 (.fA 0 (.t 5)),o 12 (.ld none (.t 11))] [0,2,3,5,8,12]) (.block 0 (.seq (r [o 14 (.bin .eql (.t 12) (i 1)),o 13 (.mv (.t 14))] [0,2,3,5,8,12,13]) (.cond (.t 13) (.seq (r [o 15 (.fA 3 (.t 5)),o 16 (.ld (some 3) (.t 15)),z (.st 3 (.t 8) (.t 16))] [8]) .ret) (.seq (r [o 18 (.bin .eql (.t 12) (i 2)),o 17 (.mv (.t 18))] [0,2,3,5,8,12,17]) (.cond (.t 17) (.seq (r [o 19 (.mv (.t 2)),o 20 (.fA 1 (.t 5)),o 21 (.ld none (.t 20)),o 22 (.ixA 3 (.t 19) (.t 21)),o 23 (.ld (some 3) (.t 22)),z (.st 3 (.t 8) (.t 23))] [8]) .ret) (.seq (r [o 25 (.bin .eql (.t 12) (i 3)),o 24 (.mv (.t 25))] [0,2,3,5,8,12,24]) (.cond (.t 24) (.seq (r [o 26 (.mv (.t 0)),o 27 (.fA 1 (.t 5)),o 28 (.ld none (.t 27)),o 29 (.mv (.t 0)),o 30 (.ld (some 8) (.t 5)),o 31 (.mv (.t 2)),o 32 (.mv (.t 3)),o 33 (.callF 137 [(.t 29),(.t 30),(.t 31),(.t 32)]),o 34 (.mv (.t 3)),o 35 (.callF 136 [(.t 26),(.t 28),(.t 33),(.t 34)]),z (.st 3 (.t 8) (.t 35))] [8]) .ret) (.seq (r [o 37 (.bin .eql (.t 12) (i 4)),o 36 (.mv (.t 37))] [0,2,3,5,8,12,36]) (.cond (.t 36) (.seq (r [o 38 (.mv (.t 0)),o 39 (.mv (.t 0)),o 40 (.ld (some 8) (.t 5)),o 41 (.mv (.t 2)),o 42 (.mv (.t 3)),o 43 (.call 137 [(.t 39),(.t 40),(.t 41),(.t 42)]),o 44 (.call 138 [(.t 38),(i 3),(.t 43)]),z (.st 3 (.t 8) (.t 44))] [8]) .ret) (.seq (r [o 46 (.bin .eql (.t 12) (i 5)),o 45 (.mv (.t 46))] [0,2,3,5,8,12,45]) (.cond (.t 45) (.seq (r [o 47 (.mv (.t 0)),o 48 (.mv (.t 0)),o 49 (.ld (some 8) (.t 5)),o 50 (.mv (.t 2)),o 51 (.mv (.t 3)),o 52 (.call 137 [(.t 48),(.t 49),(.t 50),(.t 51)]),o 53 (.call 138 [(.t 47),(i 4),(.t 52)]),z (.st 3 (.t 8) (.t 53))] [8]) .ret) (.seq (r [o 55 (.bin .eql (.t 12) (i 6)),o 54 (.mv (.t 55))] [0,2,3,5,8,12,54]) (.cond (.t 54) (.seq (r [o 56 (.mv (.t 0)),o 57 (.ld (some 8) (.t 5)),o 58 (.mv (.t 2)),o 59 (.mv (.t 3)),o 60 (.call 139 [(.t 56),(.t 57),(.t 58),(.t 59)]),z (.st 3 (.t 8) (.t 60))] [8]) .ret) (.seq (r [o 62 (.bin .eql (.t 12) (i 7)),o 61 (.mv (.t 62))] [0,2,3,5,8,12,61]) (.cond (.t 61) (.seq (r [o 63 (.mv (.t 0)),o 64 (.ld (some 8) (.t 5)),o 65 (.mv (.t 2)),o 66 (.mv (.t 3)),o 67 (.call 140 [(.t 63),(.t 64),(.t 65),(.t 66)]),z (.st 3 (.t 8) (.t 67))] [8]) .ret) (.seq (r [o 69 (.bin .eql (.t 12) (i 8)),o 68 (.mv (.t 69))] [0,2,3,5,8,12,68]) (.cond (.t 68) (.seq (.seq (r [o 70 (.mv (.t 0)),o 71 (.fA 7 (.t 5)),o 72 (.ld none (.t 71)),o 73 (.ixA 8 (.t 72) (i 0)),o 74 (.ld (some 8) (.t 73)),o 75 (.mv (.t 2)),o 76 (.mv (.t 3)),o 77 (.call 125 [(.t 70),(.t 74),(.t 75),(.t 76)]),o 78 (.call 141 [(.t 77)])] [0,2,3,5,8,78]) (.cond (.t 78) (.seq (r [o 79 (.mv (.t 0)),o 80 (.fA 7 (.t 5)),o 81 (.ld none (.t 80)),o 82 (.ixA 8 (.t 81) (i 1)),o 83 (.ld (some 8) (.t 82)),o 84 (.mv (.t 2)),o 85 (.mv (.t 3)),o 86 (.call 125 [(.t 79),(.t 83),(.t 84),(.t 85)]),z (.st 3 (.t 8) (.t 86))] [8]) .ret) .skip)) (.seq (r [o 87 (.mv (.t 0)),o 88 (.fA 7 (.t 5)),o 89 (.ld none (.t 88)),o 90 (.ixA 8 (.t 89) (i 2)),o 91 (.ld (some 8) (.t 90)),o 92 (.mv (.t 2)),o 93 (.mv (.t 3)),o 94 (.call 125 [(.t 87),(.t 91),(.t 92),(.t 93)]),z (.st 3 (.t 8) (.t 94))] [8]) .ret)) (.seq (r [o 96 (.bin .eql (.t 12) (i 9)),o 95 (.mv (.t 96))] [0,2,3,5,8,12,95]) (.cond (.t 95) (.seq (r [o 97 (.mv (.t 0)),o 98 (.ld (some 8) (.t 5)),o 99 (.mv (.t 2)),o 100 (.mv (.t 3)),o 101 (.call 142 [(.t 97),(.t 98),(.t 99),(.t 100)]),z (.st 3 (.t 8) (.t 101))] [8]) .ret) (.seq (r [o 103 (.bin .eql (.t 12) (i 10)),o 102 (.mv (.t 103))] [0,2,3,5,8,12,102]) (.cond (.t 102) (.seq (r [o 104 (.mv (.t 0)),o 105 (.ld (some 8) (.t 5)),o 106 (.mv (.t 2)),o 107 (.mv (.t 3)),o 108 (.call 143 [(.t 104),(.t 105),(.t 106),(.t 107)]),z (.st 3 (.t 8) (.t 108))] [8]) .ret) (.seq (r [o 110 (.bin .eql (.t 12) (i 11)),o 109 (.mv (.t 110))] [0,2,3,5,8,109]) (.cond (.t 109) (.seq (r [o 111 (.mv (.t 0)),o 112 (.ld (some 8) (.t 5)),o 113 (.mv (.t 2)),o 114 (.mv (.t 3)),o 115 (.call 144 [(.t 111),(.t 112),(.t 113),(.t 114)]),z (.st 3 (.t 8) (.t 115))] [8]) .ret) .skip)))))))))))))))))))))))) (.seq (r [o 116 (.mv (.t 0)),o 117 (.fA 7 (.t 5)),o 118 (.ld none (.t 117)),o 119 (.mv (.t 0)),o 120 (.ld (some 8) (.t 5)),o 121 (.callF 145 [(.t 119),(.t 120)]),o 122 (.ixA 8 (.t 118) (.t 121)),o 123 (.ld (some 8) (.t 122)),o 124 (.mv (.t 2)),o 125 (.mv (.t 3)),o 126 (.callF 125 [(.t 116),(.t 123),(.t 124),(.t 125)]),z (.st 3 (.t 8) (.t 126))] [8]) .ret)))),[.cell 8 (some 3)]⟩
theorem play_Player_term_ok : cFn Tryz.prog (kps [[0,2,3,5,8],[0,2,3,5,8],[0,2,3,5,8,12],[0,2,3,5,8,12,13],[8],[0,2,3,5,8,12,17],[8],[0,2,3,5,8,12,24],[8],[0,2,3,5,8,12,36],[8],[0,2,3,5,8,12,45],[8],[0,2,3,5,8,12,54],[8],[0,2,3,5,8,12,61],[8],[0,2,3,5,8,12,68],[0,2,3,5,8,78],[8],[8],[0,2,3,5,8,12,95],[8],[0,2,3,5,8,12,102],[8],[0,2,3,5,8,109],[8],[8]]) [] 125 = some play_Player_term_c := by kernel_rfl
abbrev slices_IndexFunc_Type_Type : Nat := 130
def slices_IndexFunc_Type_Type_c : MFn := ⟨19,(.seq (r [o 4 (.mv (i 0))] [0,1]) (.seq (.seq (r [o 6 (.mv (.t 0)),o 7 (.lenS (.t 6)),o 8 (.mv (i 0))] [0,1,7,8]) (.block 0 (.loop (.seq (r [o 9 (.bin .lss (.t 8) (.t 7))] [0,1,7,8,9]) (.seq (.cond (.t 9) .skip (.exit 0)) (.seq (.block 1 (.seq (r [o 10 (.mv (.t 8)),o 5 (.mv (.t 10))] [0,1,5,7,8]) (.seq (r [o 11 (.mv (.t 1)),o 12 (.mv (.t 0)),o 13 (.mv (.t 5)),o 14 (.ixA 2 (.t 12) (.t 13)),o 15 (.ld (some 2) (.t 14)),o 16 (.callV (.t 11) [(.t 15)])] [0,1,5,7,8,16]) (.cond (.t 16) (.seq (r [o 17 (.mv (.t 5)),o 4 (.mv (.t 17))] [4]) .ret) .skip)))) (r [o 18 (.bin .add (.t 8) (i 1)),o 8 (.mv (.t 18))] [0,1,7,8]))))))) (.seq (r [o 4 (.mv (i (-1)))] [4]) .ret))),[.t 4]⟩
theorem slices_IndexFunc_Type_Type_ok : cFn Tryz.prog (kps [[0,1],[0,1,7,8],[0,1,7,8,9],[0,1,5,7,8],[0,1,5,7,8,16],[4],[0,1,7,8],[4]]) [] 130 = some slices_IndexFunc_Type_Type_c := by kernel_rfl
abbrev value_shape : Nat := 131
def value_shape_c : MFn := ⟨127,(.seq (r [o 2 (.box (.t 0)),o 4 (.alloc [.int .i64 0,.nils]),o 5 (.mv (.c (.bool false)))] [1,2,4]) (.seq (r [o 16 (.fA 0 (.t 2)),o 17 (.ld none (.t 16)),o 18 (.build [.int .i64 0,.nils] [(0,1,(.t 17))]),o 6 (.alloc [.int .i64 0,.nils]),z (.st 2 (.t 6) (.t 18))] [1,2,4,6]) (.seq (.block 0 (.seq (r [o 20 (.mv (.t 1)),o 21 (.bin .lss (.t 20) (i 1)),o 19 (.mv (.t 21))] [1,2,4,6,19]) (.cond (.t 19) (.seq (r [o 22 (.ld (some 2) (.t 6)),z (.st 2 (.t 4) (.t 22)),o 5 (.mv (.c (.bool false)))] [4,5]) .ret) (.seq (r [o 24 (.fA 0 (.t 2)),o 25 (.ld none (.t 24)),o 26 (.bin .eql (.t 25) (i 1)),o 27 (.mv (.t 26)),n 28 27 (.fA 0 (.t 2)),n 29 27 (.ld none (.t 28)),n 30 27 (.bin .eql (.t 29) (i 2)),o 31 (.pick (.t 27) (.c (.bool true)) (.t 30)),o 23 (.mv (.t 31))] [1,2,4,6,23]) (.cond (.t 23) (.seq (r [o 32 (.ld (some 2) (.t 6)),o 33 (.ld (some 2) (.t 6)),o 34 (.ld (some 3) (.t 2)),o 35 (.callF 100 [(.t 33),(.t 34)]),z (.st 2 (.t 4) (.t 32)),o 5 (.mv (.t 35))] [4,5]) .ret) (.seq (r [o 37 (.fA 0 (.t 2)),o 38 (.ld none (.t 37)),o 39 (.bin .eql (.t 38) (i 3)),o 40 (.mv (.t 39)),y 41 40 (.fA 1 (.t 2)),y 42 40 (.ld none (.t 41)),y 43 40 (.bin .eql (.t 42) (i 0)),o 44 (.pick (.t 40) (.t 43) (.c (.bool false))),o 45 (.mv (.t 44)),y 46 45 (.fA 2 (.t 2)),y 47 45 (.ld none (.t 46)),y 48 45 (.lenS (.t 47)),y 49 45 (.bin .geq (.t 48) (i 2)),o 50 (.pick (.t 45) (.t 49) (.c (.bool false))),o 51 (.mv (.t 50)),y 52 51 (.fA 2 (.t 2)),y 53 51 (.ld none (.t 52)),y 54 51 (.lenS (.t 53)),y 55 51 (.bin .leq (.t 54) (i 4)),o 56 (.pick (.t 51) (.t 55) (.c (.bool false))),o 36 (.mv (.t 56))] [1,2,4,6,36]) (.cond (.t 36) (.seq (.seq (r [o 57 (.fA 2 (.t 2)),o 58 (.ld none (.t 57)),o 59 (.lenS (.t 58)),o 60 (.mv (i 0))] [1,4,6,58,59,60]) (.block 1 (.loop (.seq (r [o 61 (.bin .lss (.t 60) (.t 59))] [1,4,6,58,59,60,61]) (.seq (.cond (.t 61) .skip (.exit 1)) (.seq (.block 2 (.seq (r [o 62 (.ixA 3 (.t 58) (.t 60)),o 63 (.ld (some 3) (.t 62)),o 8 (.alloc zV),z (.st 3 (.t 8) (.t 63))] [1,4,6,8,58,59,60]) (.seq (r [o 65 (.ld (some 3) (.t 8)),o 66 (.mv (.t 1)),o 67 (.bin .sub (.t 66) (i 1)),o 68 (.call 131 [(.t 65),(.t 67)]),o 64 (.mv (.t 68)),o 69 (.ext (.t 64) 0),o 70 (.ext (.t 64) 1),o 9 (.alloc [.int .i64 0,.nils]),z (.st 2 (.t 9) (.t 69)),o 10 (.mv (.t 70))] [1,4,6,9,10,58,59,60]) (.seq (.seq (r [o 71 (.mv (.t 10)),o 72 (.un .not (.t 71))] [1,4,6,9,58,59,60,72]) (.cond (.t 72) (.seq (r [o 73 (.ld (some 2) (.t 6)),z (.st 2 (.t 4) (.t 73)),o 5 (.mv (.c (.bool false)))] [4,5]) .ret) .skip)) (r [o 74 (.fA 1 (.t 6)),o 75 (.ld none (.t 74)),o 76 (.ld (some 2) (.t 9)),o 77 (.buildSl 2 1 [.int .i64 0,.nils] [(0,(.t 76))]),o 78 (.app 2 32 (.t 75) (.t 77)),o 79 (.fA 1 (.t 6)),z (.st 1 (.t 79) (.t 78))] [1,4,6,58,59,60]))))) (r [o 80 (.bin .add (.t 60) (i 1)),o 60 (.mv (.t 80))] [1,4,6,58,59,60]))))))) (.seq (r [o 81 (.ld (some 2) (.t 6)),z (.st 2 (.t 4) (.t 81)),o 5 (.mv (.c (.bool true)))] [4,5]) .ret)) (.seq (r [o 83 (.fA 0 (.t 2)),o 84 (.ld none (.t 83)),o 85 (.bin .eql (.t 84) (i 4)),o 86 (.mv (.t 85)),y 87 86 (.fA 1 (.t 2)),y 88 86 (.ld none (.t 87)),y 89 86 (.bin .eql (.t 88) (i 0)),o 90 (.pick (.t 86) (.t 89) (.c (.bool false))),o 91 (.mv (.t 90)),y 92 91 (.fA 2 (.t 2)),y 93 91 (.ld none (.t 92)),y 94 91 (.lenS (.t 93)),y 95 91 (.bin .leq (.t 94) (i 32)),o 96 (.pick (.t 91) (.t 95) (.c (.bool false))),o 82 (.mv (.t 96))] [1,2,4,6,82]) (.cond (.t 82) (.seq (r [o 11 (.alloc [.int .i64 0,.nils])] [1,2,4,6,11]) (.seq (.seq (r [o 97 (.fA 2 (.t 2)),o 98 (.ld none (.t 97)),o 99 (.lenS (.t 98)),o 100 (.mv (i 0))] [1,4,6,11,98,99,100]) (.block 3 (.loop (.seq (r [o 101 (.bin .lss (.t 100) (.t 99))] [1,4,6,11,98,99,100,101]) (.seq (.cond (.t 101) .skip (.exit 3)) (.seq (.block 4 (.seq (r [o 102 (.ixA 3 (.t 98) (.t 100)),o 103 (.ld (some 3) (.t 102)),o 13 (.alloc zV),z (.st 3 (.t 13) (.t 103))] [1,4,6,11,13,98,99,100]) (.seq (r [o 105 (.ld (some 3) (.t 13)),o 106 (.mv (.t 1)),o 107 (.bin .sub (.t 106) (i 1)),o 108 (.call 131 [(.t 105),(.t 107)]),o 104 (.mv (.t 108)),o 109 (.ext (.t 104) 0),o 110 (.ext (.t 104) 1),o 14 (.alloc [.int .i64 0,.nils]),z (.st 2 (.t 14) (.t 109)),o 15 (.mv (.t 110))] [1,4,6,11,14,15,98,99,100]) (.seq (.seq (r [o 111 (.mv (.t 15))] [1,4,6,11,14,15,98,99,100,111]) (.cond (.t 111) (r [o 113 (.ld (some 2) (.t 11)),o 114 (.ld (some 2) (.t 14)),o 115 (.call 147 [(.t 113),(.t 114)]),o 112 (.mv (.t 115)),o 116 (.ext (.t 112) 0),o 117 (.ext (.t 112) 1),z (.st 2 (.t 11) (.t 116)),o 15 (.mv (.t 117))] [1,4,6,11,15,98,99,100]) .skip)) (.seq (r [o 118 (.mv (.t 15)),o 119 (.un .not (.t 118))] [1,4,6,11,98,99,100,119]) (.cond (.t 119) (.seq (r [o 120 (.ld (some 2) (.t 6)),z (.st 2 (.t 4) (.t 120)),o 5 (.mv (.c (.bool false)))] [4,5]) .ret) .skip)))))) (r [o 121 (.bin .add (.t 100) (i 1)),o 100 (.mv (.t 121))] [1,4,6,11,98,99,100]))))))) (.seq (r [o 122 (.ld (some 2) (.t 11)),o 123 (.buildSl 2 1 [.int .i64 0,.nils] [(0,(.t 122))]),o 124 (.fA 1 (.t 6)),z (.st 1 (.t 124) (.t 123))] [4,6]) (.seq (r [o 125 (.ld (some 2) (.t 6)),z (.st 2 (.t 4) (.t 125)),o 5 (.mv (.c (.bool true)))] [4,5]) .ret)))) .skip))))))))) (.seq (r [o 126 (.ld (some 2) (.t 6)),z (.st 2 (.t 4) (.t 126)),o 5 (.mv (.c (.bool false)))] [4,5]) .ret)))),[.cell 4 (some 2),.t 5]⟩
theorem value_shape_ok : cFn Tryz.prog (kps [[1,2,4],[1,2,4,6],[1,2,4,6,19],[4,5],[1,2,4,6,23],[4,5],[1,2,4,6,36],[1,4,6,58,59,60],[1,4,6,58,59,60,61],[1,4,6,8,58,59,60],[1,4,6,9,10,58,59,60],[1,4,6,9,58,59,60,72],[4,5],[1,4,6,58,59,60],[1,4,6,58,59,60],[4,5],[1,2,4,6,82],[1,2,4,6,11],[1,4,6,11,98,99,100],[1,4,6,11,98,99,100,101],[1,4,6,11,13,98,99,100],[1,4,6,11,14,15,98,99,100],[1,4,6,11,14,15,98,99,100,111],[1,4,6,11,15,98,99,100],[1,4,6,11,98,99,100,119],[4,5],[1,4,6,11,98,99,100],[4,6],[4,5],[4,5]]) [] 131 = some value_shape_c := by kernel_rfl
abbrev value_closed : Nat := 132
def value_closed_c : MFn := ⟨29,(.seq (r [o 1 (.box (.t 0)),o 2 (.alloc [.int .i64 0,.nils])] [1,2]) (.seq (.seq (r [o 6 (.fA 0 (.t 1)),o 7 (.ld none (.t 6)),o 8 (.bin .eql (.t 7) (i 0))] [1,2,8]) (.cond (.t 8) (.seq (r [o 9 (.build [.int .i64 0,.nils] [(0,1,(i 1))]),z (.st 2 (.t 2) (.t 9))] [2]) .ret) .skip)) (.seq (r [o 10 (.fA 0 (.t 1)),o 11 (.ld none (.t 10)),o 12 (.build [.int .i64 0,.nils] [(0,1,(.t 11))]),o 3 (.alloc [.int .i64 0,.nils]),z (.st 2 (.t 3) (.t 12))] [1,2,3]) (.seq (.seq (r [o 13 (.fA 1 (.t 1)),o 14 (.ld none (.t 13)),o 15 (.lenS (.t 14)),o 16 (.mv (i 0))] [2,3,14,15,16]) (.block 0 (.loop (.seq (r [o 17 (.bin .lss (.t 16) (.t 15))] [2,3,14,15,16,17]) (.seq (.cond (.t 17) .skip (.exit 0)) (.seq (.block 1 (.seq (r [o 18 (.ixA 2 (.t 14) (.t 16)),o 19 (.ld (some 2) (.t 18)),o 5 (.alloc [.int .i64 0,.nils]),z (.st 2 (.t 5) (.t 19))] [2,3,5,14,15,16]) (r [o 20 (.fA 1 (.t 3)),o 21 (.ld none (.t 20)),o 22 (.ld (some 2) (.t 5)),o 23 (.callF 132 [(.t 22)]),o 24 (.buildSl 2 1 [.int .i64 0,.nils] [(0,(.t 23))]),o 25 (.app 2 32 (.t 21) (.t 24)),o 26 (.fA 1 (.t 3)),z (.st 1 (.t 26) (.t 25))] [2,3,14,15,16]))) (r [o 27 (.bin .add (.t 16) (i 1)),o 16 (.mv (.t 27))] [2,3,14,15,16]))))))) (.seq (r [o 28 (.ld (some 2) (.t 3)),z (.st 2 (.t 2) (.t 28))] [2]) .ret))))),[.cell 2 (some 2)]⟩
theorem value_closed_ok : cFn Tryz.prog (kps [[1,2],[1,2,8],[2],[1,2,3],[2,3,14,15,16],[2,3,14,15,16,17],[2,3,5,14,15,16],[2,3,14,15,16],[2,3,14,15,16],[2]]) [] 132 = some value_closed_c := by kernel_rfl
abbrev slices_IndexFunc_Sint_int : Nat := 133
def slices_IndexFunc_Sint_int_c : MFn := ⟨19,(.seq (r [o 4 (.mv (i 0))] [0,1]) (.seq (.seq (r [o 6 (.mv (.t 0)),o 7 (.lenS (.t 6)),o 8 (.mv (i 0))] [0,1,7,8]) (.block 0 (.loop (.seq (r [o 9 (.bin .lss (.t 8) (.t 7))] [0,1,7,8,9]) (.seq (.cond (.t 9) .skip (.exit 0)) (.seq (.block 1 (.seq (r [o 10 (.mv (.t 8)),o 5 (.mv (.t 10))] [0,1,5,7,8]) (.seq (r [o 11 (.mv (.t 1)),o 12 (.mv (.t 0)),o 13 (.mv (.t 5)),o 14 (.ixA 1 (.t 12) (.t 13)),o 15 (.ld none (.t 14)),o 16 (.callV (.t 11) [(.t 15)])] [0,1,5,7,8,16]) (.cond (.t 16) (.seq (r [o 17 (.mv (.t 5)),o 4 (.mv (.t 17))] [4]) .ret) .skip)))) (r [o 18 (.bin .add (.t 8) (i 1)),o 8 (.mv (.t 18))] [0,1,7,8]))))))) (.seq (r [o 4 (.mv (i (-1)))] [4]) .ret))),[.t 4]⟩
theorem slices_IndexFunc_Sint_int_ok : cFn Tryz.prog (kps [[0,1],[0,1,7,8],[0,1,7,8,9],[0,1,5,7,8],[0,1,5,7,8,16],[4],[0,1,7,8],[4]]) [] 133 = some slices_IndexFunc_Sint_int_c := by kernel_rfl
abbrev slices_IndexFunc_Value_Value : Nat := 134
def slices_IndexFunc_Value_Value_c : MFn := ⟨19,(.seq (r [o 4 (.mv (i 0))] [0,1]) (.seq (.seq (r [o 6 (.mv (.t 0)),o 7 (.lenS (.t 6)),o 8 (.mv (i 0))] [0,1,7,8]) (.block 0 (.loop (.seq (r [o 9 (.bin .lss (.t 8) (.t 7))] [0,1,7,8,9]) (.seq (.cond (.t 9) .skip (.exit 0)) (.seq (.block 1 (.seq (r [o 10 (.mv (.t 8)),o 5 (.mv (.t 10))] [0,1,5,7,8]) (.seq (r [o 11 (.mv (.t 1)),o 12 (.mv (.t 0)),o 13 (.mv (.t 5)),o 14 (.ixA 3 (.t 12) (.t 13)),o 15 (.ld (some 3) (.t 14)),o 16 (.callV (.t 11) [(.t 15)])] [0,1,5,7,8,16]) (.cond (.t 16) (.seq (r [o 17 (.mv (.t 5)),o 4 (.mv (.t 17))] [4]) .ret) .skip)))) (r [o 18 (.bin .add (.t 8) (i 1)),o 8 (.mv (.t 18))] [0,1,7,8]))))))) (.seq (r [o 4 (.mv (i (-1)))] [4]) .ret))),[.t 4]⟩
theorem slices_IndexFunc_Value_Value_ok : cFn Tryz.prog (kps [[0,1],[0,1,7,8],[0,1,7,8,9],[0,1,5,7,8],[0,1,5,7,8,16],[4],[0,1,7,8],[4]]) [] 134 = some slices_IndexFunc_Value_Value_c := by kernel_rfl
abbrev play_Player_step : Nat := 135
def play_Player_step_c : MFn := ⟨19,(.seq (r [o 4 (.mv (.t 0)),o 5 (.fA 0 (.t 4)),o 6 (.fA 28 (.t 5)),o 7 (.ld none (.t 6)),o 8 (.mv (.t 1)),o 9 (.bin .add (.t 7) (.t 8)),o 10 (.fA 0 (.t 4)),o 11 (.fA 28 (.t 10)),z (.st 1 (.t 11) (.t 9))] [0]) (.seq (r [o 12 (.mv (.t 0)),o 13 (.fA 0 (.t 12)),o 14 (.fA 28 (.t 13)),o 15 (.ld none (.t 14)),o 16 (.bin .gtr (.t 15) (i 100000))] [16]) (.cond (.t 16) (r [o 17 (.build [] []),o 18 (.mkI 143 (.t 17)),z (.no)] []) .skip))),[]⟩
theorem play_Player_step_ok : cFn Tryz.prog (kps [[0],[16],[]]) [] 135 = some play_Player_step_c := by kernel_rfl
abbrev play_Player_observe : Nat := 143
def play_Player_observe_c : MFn := ⟨43,(.seq (r [o 5 (.box (.t 1)),o 8 (.alloc zV)] [0,2,3,5,8]) (.seq (.seq (r [o 10 (.mv (.t 0)),o 11 (.fA 0 (.t 10)),o 12 (.fA 14 (.t 11)),o 13 (.ld none (.t 12)),o 14 (.mv (.t 13)),y 15 14 (.ld (some 8) (.t 5)),y 16 14 (.call 17 [(.t 15)]),o 17 (.pick (.t 14) (.t 16) (.c (.bool false)))] [0,2,3,5,8,17]) (.cond (.t 17) (.seq (r [o 18 (.mv (.t 0)),o 19 (.ld (some 8) (.t 5)),o 20 (.mv (.t 2)),o 21 (.mv (.t 3)),o 22 (.call 151 [(.t 18),(.t 19),(.t 20),(.t 21)]),z (.st 3 (.t 8) (.t 22))] [8]) .ret) .skip)) (.seq (r [o 9 (.mv (i 0))] [0,2,3,5,8,9]) (.seq (.seq (r [o 23 (.mv (.t 0)),o 24 (.fA 7 (.t 5)),o 25 (.ld none (.t 24)),o 26 (.ixA 8 (.t 25) (i 0)),o 27 (.ld (some 8) (.t 26)),o 28 (.mv (.t 2)),o 29 (.mv (.t 3)),o 30 (.call 125 [(.t 23),(.t 27),(.t 28),(.t 29)]),o 31 (.call 141 [(.t 30)])] [0,2,3,5,8,9,31]) (.cond (.t 31) (r [o 9 (.mv (i 1))] [0,2,3,5,8,9]) .skip)) (.seq (r [o 32 (.mv (.t 0)),o 33 (.mv (.t 9)),o 34 (.call 152 [(.t 32),(.t 33),(i 1)])] [0,2,3,5,8]) (.seq (r [o 35 (.mv (.t 0)),o 36 (.fA 7 (.t 5)),o 37 (.ld none (.t 36)),o 38 (.ixA 8 (.t 37) (i 1)),o 39 (.ld (some 8) (.t 38)),o 40 (.mv (.t 2)),o 41 (.mv (.t 3)),o 42 (.call 125 [(.t 35),(.t 39),(.t 40),(.t 41)]),z (.st 3 (.t 8) (.t 42))] [8]) .ret)))))),[.cell 8 (some 3)]⟩
theorem play_Player_observe_ok : cFn Tryz.prog (kps [[0,2,3,5,8],[0,2,3,5,8,17],[8],[0,2,3,5,8,9],[0,2,3,5,8,9,31],[0,2,3,5,8,9],[0,2,3,5,8],[8]]) [] 143 = some play_Player_observe_c := by kernel_rfl
abbrev value_join : Nat := 147
def value_join_c : MFn := ⟨70,(.seq (r [o 2 (.box (.t 0)),o 3 (.box (.t 1)),o 4 (.alloc [.int .i64 0,.nils]),o 5 (.mv (.c (.bool false)))] [2,3,4]) (.seq (.block 0 (.seq (r [o 11 (.fA 0 (.t 2)),o 12 (.ld none (.t 11)),o 13 (.bin .eql (.t 12) (i 0)),o 10 (.mv (.t 13))] [2,3,4,10]) (.cond (.t 10) (.seq (r [o 14 (.ld (some 2) (.t 3)),z (.st 2 (.t 4) (.t 14)),o 5 (.mv (.c (.bool true)))] [4,5]) .ret) (.seq (r [o 16 (.fA 0 (.t 3)),o 17 (.ld none (.t 16)),o 18 (.bin .eql (.t 17) (i 0)),o 15 (.mv (.t 18))] [2,3,4,15]) (.cond (.t 15) (.seq (r [o 19 (.ld (some 2) (.t 2)),z (.st 2 (.t 4) (.t 19)),o 5 (.mv (.c (.bool true)))] [4,5]) .ret) (.seq (r [o 21 (.fA 0 (.t 2)),o 22 (.ld none (.t 21)),o 23 (.fA 0 (.t 3)),o 24 (.ld none (.t 23)),o 25 (.bin .neq (.t 22) (.t 24)),o 26 (.mv (.t 25)),n 27 26 (.fA 1 (.t 2)),n 28 26 (.ld none (.t 27)),n 29 26 (.lenS (.t 28)),n 30 26 (.fA 1 (.t 3)),n 31 26 (.ld none (.t 30)),n 32 26 (.lenS (.t 31)),n 33 26 (.bin .neq (.t 29) (.t 32)),o 34 (.pick (.t 26) (.c (.bool true)) (.t 33)),o 20 (.mv (.t 34))] [2,3,4,20]) (.cond (.t 20) (.seq (r [o 35 (.ld (some 2) (.t 2)),z (.st 2 (.t 4) (.t 35)),o 5 (.mv (.c (.bool false)))] [4,5]) .ret) .skip))))))) (.seq (r [o 36 (.fA 0 (.t 2)),o 37 (.ld none (.t 36)),o 38 (.build [.int .i64 0,.nils] [(0,1,(.t 37))]),o 6 (.alloc [.int .i64 0,.nils]),z (.st 2 (.t 6) (.t 38))] [2,3,4,6]) (.seq (.seq (r [o 39 (.fA 1 (.t 2)),o 40 (.ld none (.t 39)),o 41 (.lenS (.t 40)),o 42 (.mv (i 0))] [2,3,4,6,41,42]) (.block 1 (.loop (.seq (r [o 43 (.bin .lss (.t 42) (.t 41))] [2,3,4,6,41,42,43]) (.seq (.cond (.t 43) .skip (.exit 1)) (.seq (.block 2 (.seq (r [o 44 (.mv (.t 42)),o 7 (.mv (.t 44))] [2,3,4,6,7,41,42]) (.seq (r [o 46 (.fA 1 (.t 2)),o 47 (.ld none (.t 46)),o 48 (.mv (.t 7)),o 49 (.ixA 2 (.t 47) (.t 48)),o 50 (.ld (some 2) (.t 49)),o 51 (.fA 1 (.t 3)),o 52 (.ld none (.t 51)),o 53 (.mv (.t 7)),o 54 (.ixA 2 (.t 52) (.t 53)),o 55 (.ld (some 2) (.t 54)),o 56 (.callF 147 [(.t 50),(.t 55)]),o 45 (.mv (.t 56)),o 57 (.ext (.t 45) 0),o 58 (.ext (.t 45) 1),o 8 (.alloc [.int .i64 0,.nils]),z (.st 2 (.t 8) (.t 57)),o 9 (.mv (.t 58))] [2,3,4,6,8,9,41,42]) (.seq (.seq (r [o 59 (.mv (.t 9)),o 60 (.un .not (.t 59))] [2,3,4,6,8,41,42,60]) (.cond (.t 60) (.seq (r [o 61 (.ld (some 2) (.t 2)),z (.st 2 (.t 4) (.t 61)),o 5 (.mv (.c (.bool false)))] [4,5]) .ret) .skip)) (r [o 62 (.fA 1 (.t 6)),o 63 (.ld none (.t 62)),o 64 (.ld (some 2) (.t 8)),o 65 (.buildSl 2 1 [.int .i64 0,.nils] [(0,(.t 64))]),o 66 (.app 2 32 (.t 63) (.t 65)),o 67 (.fA 1 (.t 6)),z (.st 1 (.t 67) (.t 66))] [2,3,4,6,41,42]))))) (r [o 68 (.bin .add (.t 42) (i 1)),o 42 (.mv (.t 68))] [2,3,4,6,41,42]))))))) (.seq (r [o 69 (.ld (some 2) (.t 6)),z (.st 2 (.t 4) (.t 69)),o 5 (.mv (.c (.bool true)))] [4,5]) .ret))))),[.cell 4 (some 2),.t 5]⟩
theorem value_join_ok : cFn Tryz.prog (kps [[2,3,4],[2,3,4,10],[4,5],[2,3,4,15],[4,5],[2,3,4,20],[4,5],[2,3,4,6],[2,3,4,6,41,42],[2,3,4,6,41,42,43],[2,3,4,6,7,41,42],[2,3,4,6,8,9,41,42],[2,3,4,6,8,41,42,60],[4,5],[2,3,4,6,41,42],[2,3,4,6,41,42],[4,5]]) [] 147 = some value_join_c := by kernel_rfl
abbrev play_Player_weighed : Nat := 151
def play_Player_weighed_c : MFn := ⟨82,(.seq (r [o 5 (.box (.t 1)),o 8 (.alloc zV)] [0,2,3,5,8]) (.seq (r [o 15 (.mv (.t 0)),o 16 (.call 135 [(.t 15),(i 3)])] [0,2,3,5,8]) (.seq (r [o 17 (.fA 7 (.t 5)),o 18 (.ld none (.t 17)),o 19 (.ixA 8 (.t 18) (i 0)),o 20 (.fA 7 (.t 19)),o 21 (.ld none (.t 20)),o 22 (.ixA 8 (.t 21) (i 0)),o 23 (.ld (some 8) (.t 22)),o 24 (.fA 7 (.t 5)),o 25 (.ld none (.t 24)),o 26 (.ixA 8 (.t 25) (i 0)),o 27 (.fA 7 (.t 26)),o 28 (.ld none (.t 27)),o 29 (.ixA 8 (.t 28) (i 1)),o 30 (.ld (some 8) (.t 29)),o 9 (.alloc [.int .i64 0,.int .i64 0,.int .i64 0,.int .i64 0,.int .i64 0,.nils,.nils,.nils]),o 10 (.alloc [.int .i64 0,.int .i64 0,.int .i64 0,.int .i64 0,.int .i64 0,.nils,.nils,.nils]),z (.stA 8 (.t 9) (.t 23) [24,27,29]),z (.st 8 (.t 10) (.t 30))] [0,2,3,5,8,9,10]) (.seq (.seq (r [o 31 (.ld (some 8) (.t 9)),o 32 (.call 45 [(.t 31)])] [0,2,3,5,8,9,10,32]) (.cond (.t 32) (r [o 33 (.ld (some 8) (.t 10)),o 34 (.ld (some 8) (.t 9)),z (.st 8 (.t 9) (.t 33)),z (.st 8 (.t 10) (.t 34))] [0,2,3,5,8,9,10]) .skip)) (.seq (r [o 35 (.fA 3 (.t 10)),o 36 (.ld (some 3) (.t 35)),o 11 (.alloc zV),z (.st 3 (.t 11) (.t 36)),o 12 (.mv (i 0))] [0,2,3,5,8,9,10,11,12]) (.seq (.seq (r [o 37 (.fA 0 (.t 10)),o 38 (.ld none (.t 37)),o 39 (.bin .eql (.t 38) (i 2))] [0,2,3,5,8,9,10,11,12,39]) (.cond (.t 39) (r [o 40 (.mv (.t 2)),o 41 (.fA 1 (.t 10)),o 42 (.ld none (.t 41)),o 43 (.ixA 3 (.t 40) (.t 42)),o 44 (.ld (some 3) (.t 43)),z (.st 3 (.t 11) (.t 44))] [0,2,3,5,8,9,11,12]) .skip)) (.seq (.seq (r [o 45 (.fA 7 (.t 9)),o 46 (.ld none (.t 45)),o 47 (.lenS (.t 46)),o 48 (.mv (i 0))] [0,2,3,5,8,9,11,12,46,47,48]) (.block 0 (.loop (.seq (r [o 49 (.bin .lss (.t 48) (.t 47))] [0,2,3,5,8,9,11,12,46,47,48,49]) (.seq (.cond (.t 49) .skip (.exit 0)) (.seq (.block 1 (.seq (r [o 50 (.mv (.t 48)),o 51 (.ixA 8 (.t 46) (.t 48)),o 52 (.ld (some 8) (.t 51)),o 14 (.alloc [.int .i64 0,.int .i64 0,.int .i64 0,.int .i64 0,.int .i64 0,.nils,.nils,.nils]),o 13 (.mv (.t 50)),z (.st 8 (.t 14) (.t 52))] [0,2,3,5,8,9,11,12,13,14,46,47,48]) (.seq (r [o 53 (.fA 3 (.t 14)),o 54 (.ld (some 3) (.t 53)),o 55 (.ld (some 3) (.t 11)),o 56 (.call 25 [(.t 54),(.t 55)])] [0,2,3,5,8,9,11,12,13,46,47,48,56]) (.cond (.t 56) (r [o 57 (.mv (.t 12)),o 58 (.fA 6 (.t 9)),o 59 (.ld none (.t 58)),o 60 (.mv (.t 13)),o 61 (.ixA 1 (.t 59) (.t 60)),o 62 (.ld none (.t 61)),o 63 (.bin .add (.t 57) (.t 62)),o 12 (.mv (.t 63))] [0,2,3,5,8,9,11,12,46,47,48]) .skip)))) (r [o 64 (.bin .add (.t 48) (i 1)),o 48 (.mv (.t 64))] [0,2,3,5,8,9,11,12,46,47,48]))))))) (.seq (.seq (r [o 65 (.mv (.t 12)),o 66 (.bin .eql (.t 65) (i 0))] [0,2,3,5,8,9,12,66]) (.cond (.t 66) (r [o 67 (.mv (.t 0)),o 68 (.call 148 [(.t 67),(i 1),(i 0)])] [0,2,3,5,8,9,12]) .skip)) (.seq (r [o 69 (.mv (.t 0)),o 70 (.mv (.t 12)),o 71 (.ld (some 8) (.t 9)),o 72 (.call 154 [(.t 71)]),o 73 (.call 153 [(.t 69),(.t 70),(.t 72)])] [0,2,3,5,8]) (.seq (r [o 74 (.mv (.t 0)),o 75 (.fA 7 (.t 5)),o 76 (.ld none (.t 75)),o 77 (.ixA 8 (.t 76) (i 1)),o 78 (.ld (some 8) (.t 77)),o 79 (.mv (.t 2)),o 80 (.mv (.t 3)),o 81 (.call 125 [(.t 74),(.t 78),(.t 79),(.t 80)]),z (.st 3 (.t 8) (.t 81))] [8]) .ret)))))))))),[.cell 8 (some 3)]⟩
theorem play_Player_weighed_ok : cFn Tryz.prog (kps [[0,2,3,5,8],[0,2,3,5,8],[0,2,3,5,8,9,10],[0,2,3,5,8,9,10,32],[0,2,3,5,8,9,10],[0,2,3,5,8,9,10,11,12],[0,2,3,5,8,9,10,11,12,39],[0,2,3,5,8,9,11,12],[0,2,3,5,8,9,11,12,46,47,48],[0,2,3,5,8,9,11,12,46,47,48,49],[0,2,3,5,8,9,11,12,13,14,46,47,48],[0,2,3,5,8,9,11,12,13,46,47,48,56],[0,2,3,5,8,9,11,12,46,47,48],[0,2,3,5,8,9,11,12,46,47,48],[0,2,3,5,8,9,12,66],[0,2,3,5,8,9,12],[0,2,3,5,8],[8]]) [] 151 = some play_Player_weighed_c := by kernel_rfl
abbrev play_Player_times : Nat := 153
def play_Player_times_c : MFn := ⟨23,(.seq (r [o 9 (.mv (.t 1)),o 10 (.mv (.t 2)),o 11 (.call 159 [(.t 9),(.t 10)]),o 8 (.mv (.t 11)),o 12 (.ext (.t 8) 0),o 13 (.ext (.t 8) 1),o 6 (.alloc zR),z (.st 3 (.t 6) (.t 12)),o 7 (.mv (.t 13))] [0,6]) (r [o 14 (.mv (.t 0)),o 15 (.mv (.t 0)),o 16 (.fA 0 (.t 15)),o 17 (.fA 19 (.t 16)),o 18 (.ld (some 3) (.t 17)),o 19 (.ld (some 3) (.t 6)),o 20 (.callF 35 [(.t 18),(.t 19)]),o 21 (.fA 0 (.t 14)),o 22 (.fA 19 (.t 21)),z (.st 3 (.t 22) (.t 20))] [])),[]⟩
theorem play_Player_times_ok : cFn Tryz.prog (kps [[0,6],[]]) [] 153 = some play_Player_times_c := by kernel_rfl
abbrev play_whole : Nat := 154
def play_whole_c : MFn := ⟨18,(.seq (r [o 1 (.box (.t 0)),o 2 (.mv (i 0))] [1]) (.seq (r [o 3 (.mv (i 0))] [1,3]) (.seq (.seq (r [o 6 (.fA 6 (.t 1)),o 7 (.ld none (.t 6)),o 8 (.lenS (.t 7)),o 9 (.mv (i 0))] [3,7,8,9]) (.block 0 (.loop (.seq (r [o 10 (.bin .lss (.t 9) (.t 8))] [3,7,8,9,10]) (.seq (.cond (.t 10) .skip (.exit 0)) (.seq (.block 1 (.seq (r [o 11 (.ixA 1 (.t 7) (.t 9)),o 12 (.ld none (.t 11)),o 5 (.mv (.t 12))] [3,5,7,8,9]) (r [o 13 (.mv (.t 3)),o 14 (.mv (.t 5)),o 15 (.bin .add (.t 13) (.t 14)),o 3 (.mv (.t 15))] [3,7,8,9]))) (r [o 16 (.bin .add (.t 9) (i 1)),o 9 (.mv (.t 16))] [3,7,8,9]))))))) (.seq (r [o 17 (.mv (.t 3)),o 2 (.mv (.t 17))] [2]) .ret)))),[.t 2]⟩
theorem play_whole_ok : cFn Tryz.prog (kps [[1],[1,3],[3,7,8,9],[3,7,8,9,10],[3,5,7,8,9],[3,7,8,9],[3,7,8,9],[2]]) [] 154 = some play_whole_c := by kernel_rfl
abbrev ratio_Make : Nat := 159
def ratio_Make_c : MFn := ⟨18,(.seq (r [o 4 (.alloc zR),o 5 (.mv (i 0))] [0,1,4]) (.seq (r [o 6 (.mv (.t 0)),o 7 (.bin .lss (.t 6) (i 0)),o 8 (.mv (.t 1)),o 9 (.bin .lss (.t 8) (i 0)),o 10 (.binB .neq (.t 7) (.t 9)),o 11 (.mv (.t 0)),o 12 (.call 160 [(.t 11)]),o 13 (.mv (.t 1)),o 14 (.call 160 [(.t 13)]),o 15 (.call 87 [(.t 10),(.t 12),(.t 14)]),o 16 (.ext (.t 15) 0),o 17 (.ext (.t 15) 1),z (.st 3 (.t 4) (.t 16)),o 5 (.mv (.t 17))] [4,5]) .ret)),[.cell 4 (some 3),.t 5]⟩
theorem ratio_Make_ok : cFn Tryz.prog (kps [[0,1,4],[4,5]]) [] 159 = some ratio_Make_c := by kernel_rfl
abbrev ratio_size : Nat := 160
def ratio_size_c : MFn := ⟨12,(.seq (r [o 2 (.mv (.c .nils))] [0]) (.seq (.seq (r [o 3 (.mv (.t 0)),o 4 (.bin .lss (.t 3) (i 0))] [0,4]) (.cond (.t 4) (.seq (r [o 5 (.mv (.t 0)),o 6 (.cvt .u64 (.t 5)),o 7 (.un .neg (.t 6)),o 8 (.call 54 [(.t 7)]),o 2 (.mv (.t 8))] [2]) .ret) .skip)) (.seq (r [o 9 (.mv (.t 0)),o 10 (.cvt .u64 (.t 9)),o 11 (.call 54 [(.t 10)]),o 2 (.mv (.t 11))] [2]) .ret))),[.t 2]⟩
theorem ratio_size_ok : cFn Tryz.prog (kps [[0],[0,4],[2],[2]]) [] 160 = some ratio_size_c := by kernel_rfl
abbrev play_Player_Go : Nat := 103
def play_Player_Go_c : MFnE :=
 ⟨35,[(r [o 4 (.alloc [.bool false])] [0,1,4]),(r [o 6 (.mv (.t 0)),o 7 (.call 37 []),o 8 (.fA 0 (.t 6)),o 9 (.fA 19 (.t 8)),z (.st 3 (.t 9) (.t 7))] [0,1,4])],10,124,[(.t 4)],(.seq (r [o 11 (.mv (.t 0)),o 12 (.fA 0 (.t 11)),o 13 (.fA 0 (.t 12)),o 14 (.fA 2 (.t 13)),o 15 (.fA 1 (.t 14)),o 16 (.ld none (.t 15)),o 17 (.mkSl 3 40 zV (.t 16) (.t 16)),o 5 (.mv (.t 17))] [0,1,4,5]) (.seq (r [o 18 (.mv (.t 5)),o 19 (.mv (.t 1)),o 20 (.rd2 .cpy [(.t 18),(.t 19)])] [0,4,5]) (.seq (r [o 21 (.mv (.t 0)),o 22 (.mv (.t 0)),o 23 (.mv (.t 0)),o 24 (.fA 0 (.t 23)),o 25 (.fA 0 (.t 24)),o 26 (.fA 2 (.t 25)),o 27 (.fA 2 (.t 26)),o 28 (.ld (some 8) (.t 27)),o 29 (.mv (.t 5)),o 30 (.call 125 [(.t 22),(.t 28),(.t 29),(i 0)]),o 31 (.call 113 [(.t 30)]),o 32 (.build [.int .i64 0,.int .i64 0,.int .i64 0,.int .i64 0,.nils] [(2,3,(.t 31))]),o 33 (.fA 0 (.t 21)),o 34 (.fA 22 (.t 33)),z (.st 5 (.t 34) (.t 32))] [4]) (.seq (r [z (.st 1 (.t 4) (.c (.bool true)))] [4]) .ret)))),[.cell 4 none]⟩
theorem play_Player_Go_ok : cFnE Tryz.prog (kps [[0,1,4],[0,1,4],[0,1,4],[0,1,4,5],[0,4,5],[4],[4]]) [] 103 = some play_Player_Go_c := by kernel_rfl
end Go.Proofs.YtkockkfmjmheeaaGreat.F

namespace Go.Proofs.YtkockkfmjmheeaaGreat
open Go Go.Proofs Go.Proofs.YtkockkfmjmheeaaGreat.E
def TAlivWT (f : Nat) : Option MFn :=
 (match Nat.blt f 90 with
 | true =>
   (match Nat.blt f 58 with
   | true =>
     (match Nat.blt f 37 with
     | true =>
       (match Nat.blt f 21 with
       | true =>
         (match Nat.blt f 17 with
         | true =>
           (match Nat.blt f 8 with
           | true =>
             (match Nat.beq f 6 with | true => some F.weigh_Weighs_c | false => none)
           | false =>
             (match Nat.blt f 15 with
             | true =>
               (match Nat.beq f 8 with | true => some F.law31_alive_c | false => none)
             | false =>
               (match Nat.beq f 15 with | true => some F.ref02_Same_c | false => none)))
         | false =>
           (match Nat.blt f 19 with
           | true =>
             (match Nat.beq f 17 with | true => some F.play_Weighs_c | false => none)
           | false =>
             (match Nat.blt f 20 with
             | true =>
               (match Nat.beq f 19 with | true => some F.weigh_Runs_c | false => none)
             | false =>
               (match Nat.beq f 20 with | true => some F.law31_quarter_c | false => none))))
       | false =>
         (match Nat.blt f 29 with
         | true =>
           (match Nat.blt f 24 with
           | true =>
             (match Nat.beq f 21 with | true => some F.ref02_Make_c | false => none)
           | false =>
             (match Nat.blt f 25 with
             | true =>
               (match Nat.beq f 24 with | true => some F.ratio_Zero_c | false => none)
             | false =>
               (match Nat.beq f 25 with | true => some F.value_Same_c | false => none)))
         | false =>
           (match Nat.blt f 31 with
           | true =>
             (match Nat.beq f 29 with | true => some F.ref02_Zero_c | false => none)
           | false =>
             (match Nat.blt f 35 with
             | true =>
               (match Nat.beq f 31 with | true => some F.ref02_Add_c | false => none)
             | false =>
               (match Nat.beq f 35 with | true => some F.ratio_Mul_c | false => none)))))
     | false =>
       (match Nat.blt f 49 with
       | true =>
         (match Nat.blt f 45 with
         | true =>
           (match Nat.blt f 43 with
           | true =>
             (match Nat.beq f 37 with | true => some F.ratio_One_c | false => none)
           | false =>
             (match Nat.blt f 44 with
             | true =>
               (match Nat.beq f 43 with | true => some F.ref02_Compare_c | false => none)
             | false =>
               (match Nat.beq f 44 with | true => some F.play_plain_c | false => none)))
         | false =>
           (match Nat.blt f 47 with
           | true =>
             (match Nat.beq f 45 with | true => some F.play_known_c | false => none)
           | false =>
             (match Nat.blt f 48 with
             | true =>
               (match Nat.beq f 47 with | true => some F.core_Right_c | false => none)
             | false =>
               (match Nat.beq f 48 with | true => some F.core_Fit_c | false => none))))
       | false =>
         (match Nat.blt f 54 with
         | true =>
           (match Nat.blt f 50 with
           | true =>
             (match Nat.beq f 49 with | true => some F.play_All_c | false => none)
           | false =>
             (match Nat.blt f 51 with
             | true =>
               (match Nat.beq f 50 with | true => some F.ref02_size_c | false => none)
             | false =>
               (match Nat.beq f 51 with | true => some F.ref02_Of_c | false => none)))
         | false =>
           (match Nat.blt f 55 with
           | true =>
             (match Nat.beq f 54 with | true => some F.nat_Of_c | false => none)
           | false =>
             (match Nat.blt f 57 with
             | true =>
               (match Nat.beq f 55 with | true => some F.value_Compare_c | false => none)
             | false =>
               (match Nat.beq f 57 with | true => some F.ratio_made_c | false => none))))))
   | false =>
     (match Nat.blt f 77 with
     | true =>
       (match Nat.blt f 68 with
       | true =>
         (match Nat.blt f 65 with
         | true =>
           (match Nat.blt f 60 with
           | true =>
             (match Nat.beq f 58 with | true => some F.nat_Mul_c | false => none)
           | false =>
             (match Nat.blt f 63 with
             | true =>
               (match Nat.beq f 60 with | true => some F.nat_Compare_c | false => none)
             | false =>
               (match Nat.beq f 63 with | true => some F.ref01_Of_c | false => none)))
         | false =>
           (match Nat.blt f 66 with
           | true =>
             (match Nat.beq f 65 with | true => some F.ref02_valid_c | false => none)
           | false =>
             (match Nat.blt f 67 with
             | true =>
               (match Nat.beq f 66 with | true => some F.ref01_Mul_c | false => none)
             | false =>
               (match Nat.beq f 67 with | true => some F.ref01_Add_c | false => none))))
       | false =>
         (match Nat.blt f 74 with
         | true =>
           (match Nat.blt f 69 with
           | true =>
             (match Nat.beq f 68 with | true => some F.ref01_Compare_c | false => none)
           | false =>
             (match Nat.blt f 73 with
             | true =>
               (match Nat.beq f 69 with | true => some F.ref01_Sub_c | false => none)
             | false =>
               (match Nat.beq f 73 with | true => some F.ref02_Sign_c | false => none)))
         | false =>
           (match Nat.blt f 75 with
           | true =>
             (match Nat.beq f 74 with | true => some F.ref02_Sub_c | false => none)
           | false =>
             (match Nat.blt f 76 with
             | true =>
               (match Nat.beq f 75 with | true => some F.slices_ContainsFunc_Term_Term_c | false => none)
             | false =>
               (match Nat.beq f 76 with | true => some F.play_plain_1_c | false => none)))))
     | false =>
       (match Nat.blt f 84 with
       | true =>
         (match Nat.blt f 81 with
         | true =>
           (match Nat.blt f 78 with
           | true =>
             (match Nat.beq f 77 with | true => some F.value_TypeRight_c | false => none)
           | false =>
             (match Nat.blt f 79 with
             | true =>
               (match Nat.beq f 78 with | true => some F.core_looker_body_c | false => none)
             | false =>
               (match Nat.beq f 79 with | true => some F.slices_EqualFunc_Type_Value_Type_Value_c | false => none)))
         | false =>
           (match Nat.blt f 82 with
           | true =>
             (match Nat.beq f 81 with | true => some F.play_Each_c | false => none)
           | false =>
             (match Nat.blt f 83 with
             | true =>
               (match Nat.beq f 82 with | true => some F.play_All_1_c | false => none)
             | false =>
               (match Nat.beq f 83 with | true => some F.own_Ratio_c | false => none))))
       | false =>
         (match Nat.blt f 87 with
         | true =>
           (match Nat.blt f 85 with
           | true =>
             (match Nat.beq f 84 with | true => some F.ref01_Bits_c | false => none)
           | false =>
             (match Nat.blt f 86 with
             | true =>
               (match Nat.beq f 85 with | true => some F.ref01_Gcd_c | false => none)
             | false =>
               (match Nat.beq f 86 with | true => some F.ref01_Div_c | false => none)))
         | false =>
           (match Nat.blt f 88 with
           | true =>
             (match Nat.beq f 87 with | true => some F.ratio_Of_c | false => none)
           | false =>
             (match Nat.blt f 89 with
             | true =>
               (match Nat.beq f 88 with | true => some F.slices_Clone_Nat_uint32_c | false => none)
             | false =>
               (match Nat.beq f 89 with | true => some F.nat_trim_c | false => none)))))))
 | false =>
   (match Nat.blt f 118 with
   | true =>
     (match Nat.blt f 105 with
     | true =>
       (match Nat.blt f 98 with
       | true =>
         (match Nat.blt f 94 with
         | true =>
           (match Nat.blt f 91 with
           | true =>
             (match Nat.beq f 90 with | true => some F.cmp_Compare_int_c | false => none)
           | false =>
             (match Nat.blt f 92 with
             | true =>
               (match Nat.beq f 91 with | true => some F.slices_CompareFunc_Value_Value_Value_Value_c | false => none)
             | false =>
               (match Nat.beq f 92 with | true => some F.ref01_trim_c | false => none)))
         | false =>
           (match Nat.blt f 96 with
           | true =>
             (match Nat.beq f 94 with | true => some F.ref01_at_c | false => none)
           | false =>
             (match Nat.blt f 97 with
             | true =>
               (match Nat.beq f 96 with | true => some F.ref02_Neg_c | false => none)
             | false =>
               (match Nat.beq f 97 with | true => some F.slices_IndexFunc_Term_Term_c | false => none))))
       | false =>
         (match Nat.blt f 101 with
         | true =>
           (match Nat.blt f 99 with
           | true =>
             (match Nat.beq f 98 with | true => some F.value_deep_c | false => none)
           | false =>
             (match Nat.blt f 100 with
             | true =>
               (match Nat.beq f 99 with | true => some F.core_looker_right_c | false => none)
             | false =>
               (match Nat.beq f 100 with | true => some F.value_has_c | false => none)))
         | false =>
           (match Nat.blt f 102 with
           | true =>
             (match Nat.beq f 101 with | true => some F.value_Size_c | false => none)
           | false =>
             (match Nat.blt f 104 with
             | true =>
               (match Nat.beq f 102 with | true => some F.slices_Clone_Sint_int_c | false => none)
             | false =>
               (match Nat.beq f 104 with | true => some F.ref01_Small_c | false => none)))))
     | false =>
       (match Nat.blt f 111 with
       | true =>
         (match Nat.blt f 108 with
         | true =>
           (match Nat.blt f 106 with
           | true =>
             (match Nat.beq f 105 with | true => some F.ref01_even_c | false => none)
           | false =>
             (match Nat.blt f 107 with
             | true =>
               (match Nat.beq f 106 with | true => some F.ref01_half_c | false => none)
             | false =>
               (match Nat.beq f 107 with | true => some F.ref01_short_c | false => none)))
         | false =>
           (match Nat.blt f 109 with
           | true =>
             (match Nat.beq f 108 with | true => some F.ref01_guess_c | false => none)
           | false =>
             (match Nat.blt f 110 with
             | true =>
               (match Nat.beq f 109 with | true => some F.ref01_times_c | false => none)
             | false =>
               (match Nat.beq f 110 with | true => some F.nat_Gcd_c | false => none))))
       | false =>
         (match Nat.blt f 115 with
         | true =>
           (match Nat.blt f 112 with
           | true =>
             (match Nat.beq f 111 with | true => some F.nat_Div_c | false => none)
           | false =>
             (match Nat.blt f 113 with
             | true =>
               (match Nat.beq f 112 with | true => some F.cmp_isNaN_int_c | false => none)
             | false =>
               (match Nat.beq f 113 with | true => some F.own_Value_c | false => none)))
         | false =>
           (match Nat.blt f 116 with
           | true =>
             (match Nat.beq f 115 with | true => some F.slices_ContainsFunc_Type_Type_c | false => none)
           | false =>
             (match Nat.blt f 117 with
             | true =>
               (match Nat.beq f 116 with | true => some F.value_deep_1_c | false => none)
             | false =>
               (match Nat.beq f 117 with | true => some F.core_looker_kids_c | false => none))))))
   | false =>
     (match Nat.blt f 132 with
     | true =>
       (match Nat.blt f 126 with
       | true =>
         (match Nat.blt f 122 with
         | true =>
           (match Nat.blt f 119 with
           | true =>
             (match Nat.beq f 118 with | true => some F.value_Right_c | false => none)
           | false =>
             (match Nat.blt f 120 with
             | true =>
               (match Nat.beq f 119 with | true => some F.slices_ContainsFunc_Sint_int_c | false => none)
             | false =>
               (match Nat.beq f 120 with | true => some F.core_looker_right_1_c | false => none)))
         | false =>
           (match Nat.blt f 123 with
           | true =>
             (match Nat.beq f 122 with | true => some F.slices_ContainsFunc_Value_Value_c | false => none)
           | false =>
             (match Nat.blt f 125 with
             | true =>
               (match Nat.beq f 123 with | true => some F.value_has_1_c | false => none)
             | false =>
               (match Nat.beq f 125 with | true => some F.play_Player_term_c | false => none))))
       | false =>
         (match Nat.blt f 129 with
         | true =>
           (match Nat.blt f 127 with
           | true =>
             (match Nat.beq f 126 with | true => some F.nat_short_c | false => none)
           | false =>
             (match Nat.blt f 128 with
             | true =>
               (match Nat.beq f 127 with | true => some F.math_bits_LeadingZeros32_c | false => none)
             | false =>
               (match Nat.beq f 128 with | true => some F.nat_shifted_c | false => none)))
         | false =>
           (match Nat.blt f 130 with
           | true =>
             (match Nat.beq f 129 with | true => some F.own_Values_c | false => none)
           | false =>
             (match Nat.blt f 131 with
             | true =>
               (match Nat.beq f 130 with | true => some F.slices_IndexFunc_Type_Type_c | false => none)
             | false =>
               (match Nat.beq f 131 with | true => some F.value_shape_c | false => none)))))
     | false =>
       (match Nat.blt f 147 with
       | true =>
         (match Nat.blt f 135 with
         | true =>
           (match Nat.blt f 133 with
           | true =>
             (match Nat.beq f 132 with | true => some F.value_closed_c | false => none)
           | false =>
             (match Nat.blt f 134 with
             | true =>
               (match Nat.beq f 133 with | true => some F.slices_IndexFunc_Sint_int_c | false => none)
             | false =>
               (match Nat.beq f 134 with | true => some F.slices_IndexFunc_Value_Value_c | false => none)))
         | false =>
           (match Nat.blt f 143 with
           | true =>
             (match Nat.beq f 135 with | true => some F.play_Player_step_c | false => none)
           | false =>
             (match Nat.blt f 146 with
             | true =>
               (match Nat.beq f 143 with | true => some F.play_Player_observe_c | false => none)
             | false =>
               (match Nat.beq f 146 with | true => some F.math_bits_Len32_c | false => none))))
       | false =>
         (match Nat.blt f 154 with
         | true =>
           (match Nat.blt f 151 with
           | true =>
             (match Nat.beq f 147 with | true => some F.value_join_c | false => none)
           | false =>
             (match Nat.blt f 153 with
             | true =>
               (match Nat.beq f 151 with | true => some F.play_Player_weighed_c | false => none)
             | false =>
               (match Nat.beq f 153 with | true => some F.play_Player_times_c | false => none)))
         | false =>
           (match Nat.blt f 159 with
           | true =>
             (match Nat.beq f 154 with | true => some F.play_whole_c | false => none)
           | false =>
             (match Nat.blt f 160 with
             | true =>
               (match Nat.beq f 159 with | true => some F.ratio_Make_c | false => none)
             | false =>
               (match Nat.beq f 160 with | true => some F.ratio_size_c | false => none))))))))
theorem TAlivWT_ok : TabOK Tryz.prog TAlivWT := by
 intro f mf h
 unfold TAlivWT at h
 repeat' split at h
 all_goals first | (simp at h; done) | skip
 ·rename_i e; have e := Nat.eq_of_beq_eq_true e; subst e; injection h with h; subst h; exact ⟨_, _, F.weigh_Weighs_ok⟩
 ·rename_i e; have e := Nat.eq_of_beq_eq_true e; subst e; injection h with h; subst h; exact ⟨_, _, F.law31_alive_ok⟩
 ·rename_i e; have e := Nat.eq_of_beq_eq_true e; subst e; injection h with h; subst h; exact ⟨_, _, F.ref02_Same_ok⟩
 ·rename_i e; have e := Nat.eq_of_beq_eq_true e; subst e; injection h with h; subst h; exact ⟨_, _, F.play_Weighs_ok⟩
 ·rename_i e; have e := Nat.eq_of_beq_eq_true e; subst e; injection h with h; subst h; exact ⟨_, _, F.weigh_Runs_ok⟩
 ·rename_i e; have e := Nat.eq_of_beq_eq_true e; subst e; injection h with h; subst h; exact ⟨_, _, F.law31_quarter_ok⟩
 ·rename_i e; have e := Nat.eq_of_beq_eq_true e; subst e; injection h with h; subst h; exact ⟨_, _, F.ref02_Make_ok⟩
 ·rename_i e; have e := Nat.eq_of_beq_eq_true e; subst e; injection h with h; subst h; exact ⟨_, _, F.ratio_Zero_ok⟩
 ·rename_i e; have e := Nat.eq_of_beq_eq_true e; subst e; injection h with h; subst h; exact ⟨_, _, F.value_Same_ok⟩
 ·rename_i e; have e := Nat.eq_of_beq_eq_true e; subst e; injection h with h; subst h; exact ⟨_, _, F.ref02_Zero_ok⟩
 ·rename_i e; have e := Nat.eq_of_beq_eq_true e; subst e; injection h with h; subst h; exact ⟨_, _, F.ref02_Add_ok⟩
 ·rename_i e; have e := Nat.eq_of_beq_eq_true e; subst e; injection h with h; subst h; exact ⟨_, _, F.ratio_Mul_ok⟩
 ·rename_i e; have e := Nat.eq_of_beq_eq_true e; subst e; injection h with h; subst h; exact ⟨_, _, F.ratio_One_ok⟩
 ·rename_i e; have e := Nat.eq_of_beq_eq_true e; subst e; injection h with h; subst h; exact ⟨_, _, F.ref02_Compare_ok⟩
 ·rename_i e; have e := Nat.eq_of_beq_eq_true e; subst e; injection h with h; subst h; exact ⟨_, _, F.play_plain_ok⟩
 ·rename_i e; have e := Nat.eq_of_beq_eq_true e; subst e; injection h with h; subst h; exact ⟨_, _, F.play_known_ok⟩
 ·rename_i e; have e := Nat.eq_of_beq_eq_true e; subst e; injection h with h; subst h; exact ⟨_, _, F.core_Right_ok⟩
 ·rename_i e; have e := Nat.eq_of_beq_eq_true e; subst e; injection h with h; subst h; exact ⟨_, _, F.core_Fit_ok⟩
 ·rename_i e; have e := Nat.eq_of_beq_eq_true e; subst e; injection h with h; subst h; exact ⟨_, _, F.play_All_ok⟩
 ·rename_i e; have e := Nat.eq_of_beq_eq_true e; subst e; injection h with h; subst h; exact ⟨_, _, F.ref02_size_ok⟩
 ·rename_i e; have e := Nat.eq_of_beq_eq_true e; subst e; injection h with h; subst h; exact ⟨_, _, F.ref02_Of_ok⟩
 ·rename_i e; have e := Nat.eq_of_beq_eq_true e; subst e; injection h with h; subst h; exact ⟨_, _, F.nat_Of_ok⟩
 ·rename_i e; have e := Nat.eq_of_beq_eq_true e; subst e; injection h with h; subst h; exact ⟨_, _, F.value_Compare_ok⟩
 ·rename_i e; have e := Nat.eq_of_beq_eq_true e; subst e; injection h with h; subst h; exact ⟨_, _, F.ratio_made_ok⟩
 ·rename_i e; have e := Nat.eq_of_beq_eq_true e; subst e; injection h with h; subst h; exact ⟨_, _, F.nat_Mul_ok⟩
 ·rename_i e; have e := Nat.eq_of_beq_eq_true e; subst e; injection h with h; subst h; exact ⟨_, _, F.nat_Compare_ok⟩
 ·rename_i e; have e := Nat.eq_of_beq_eq_true e; subst e; injection h with h; subst h; exact ⟨_, _, F.ref01_Of_ok⟩
 ·rename_i e; have e := Nat.eq_of_beq_eq_true e; subst e; injection h with h; subst h; exact ⟨_, _, F.ref02_valid_ok⟩
 ·rename_i e; have e := Nat.eq_of_beq_eq_true e; subst e; injection h with h; subst h; exact ⟨_, _, F.ref01_Mul_ok⟩
 ·rename_i e; have e := Nat.eq_of_beq_eq_true e; subst e; injection h with h; subst h; exact ⟨_, _, F.ref01_Add_ok⟩
 ·rename_i e; have e := Nat.eq_of_beq_eq_true e; subst e; injection h with h; subst h; exact ⟨_, _, F.ref01_Compare_ok⟩
 ·rename_i e; have e := Nat.eq_of_beq_eq_true e; subst e; injection h with h; subst h; exact ⟨_, _, F.ref01_Sub_ok⟩
 ·rename_i e; have e := Nat.eq_of_beq_eq_true e; subst e; injection h with h; subst h; exact ⟨_, _, F.ref02_Sign_ok⟩
 ·rename_i e; have e := Nat.eq_of_beq_eq_true e; subst e; injection h with h; subst h; exact ⟨_, _, F.ref02_Sub_ok⟩
 ·rename_i e; have e := Nat.eq_of_beq_eq_true e; subst e; injection h with h; subst h; exact ⟨_, _, F.slices_ContainsFunc_Term_Term_ok⟩
 ·rename_i e; have e := Nat.eq_of_beq_eq_true e; subst e; injection h with h; subst h; exact ⟨_, _, F.play_plain_1_ok⟩
 ·rename_i e; have e := Nat.eq_of_beq_eq_true e; subst e; injection h with h; subst h; exact ⟨_, _, F.value_TypeRight_ok⟩
 ·rename_i e; have e := Nat.eq_of_beq_eq_true e; subst e; injection h with h; subst h; exact ⟨_, _, F.core_looker_body_ok⟩
 ·rename_i e; have e := Nat.eq_of_beq_eq_true e; subst e; injection h with h; subst h; exact ⟨_, _, F.slices_EqualFunc_Type_Value_Type_Value_ok⟩
 ·rename_i e; have e := Nat.eq_of_beq_eq_true e; subst e; injection h with h; subst h; exact ⟨_, _, F.play_Each_ok⟩
 ·rename_i e; have e := Nat.eq_of_beq_eq_true e; subst e; injection h with h; subst h; exact ⟨_, _, F.play_All_1_ok⟩
 ·rename_i e; have e := Nat.eq_of_beq_eq_true e; subst e; injection h with h; subst h; exact ⟨_, _, F.own_Ratio_ok⟩
 ·rename_i e; have e := Nat.eq_of_beq_eq_true e; subst e; injection h with h; subst h; exact ⟨_, _, F.ref01_Bits_ok⟩
 ·rename_i e; have e := Nat.eq_of_beq_eq_true e; subst e; injection h with h; subst h; exact ⟨_, _, F.ref01_Gcd_ok⟩
 ·rename_i e; have e := Nat.eq_of_beq_eq_true e; subst e; injection h with h; subst h; exact ⟨_, _, F.ref01_Div_ok⟩
 ·rename_i e; have e := Nat.eq_of_beq_eq_true e; subst e; injection h with h; subst h; exact ⟨_, _, F.ratio_Of_ok⟩
 ·rename_i e; have e := Nat.eq_of_beq_eq_true e; subst e; injection h with h; subst h; exact ⟨_, _, F.slices_Clone_Nat_uint32_ok⟩
 ·rename_i e; have e := Nat.eq_of_beq_eq_true e; subst e; injection h with h; subst h; exact ⟨_, _, F.nat_trim_ok⟩
 ·rename_i e; have e := Nat.eq_of_beq_eq_true e; subst e; injection h with h; subst h; exact ⟨_, _, F.cmp_Compare_int_ok⟩
 ·rename_i e; have e := Nat.eq_of_beq_eq_true e; subst e; injection h with h; subst h; exact ⟨_, _, F.slices_CompareFunc_Value_Value_Value_Value_ok⟩
 ·rename_i e; have e := Nat.eq_of_beq_eq_true e; subst e; injection h with h; subst h; exact ⟨_, _, F.ref01_trim_ok⟩
 ·rename_i e; have e := Nat.eq_of_beq_eq_true e; subst e; injection h with h; subst h; exact ⟨_, _, F.ref01_at_ok⟩
 ·rename_i e; have e := Nat.eq_of_beq_eq_true e; subst e; injection h with h; subst h; exact ⟨_, _, F.ref02_Neg_ok⟩
 ·rename_i e; have e := Nat.eq_of_beq_eq_true e; subst e; injection h with h; subst h; exact ⟨_, _, F.slices_IndexFunc_Term_Term_ok⟩
 ·rename_i e; have e := Nat.eq_of_beq_eq_true e; subst e; injection h with h; subst h; exact ⟨_, _, F.value_deep_ok⟩
 ·rename_i e; have e := Nat.eq_of_beq_eq_true e; subst e; injection h with h; subst h; exact ⟨_, _, F.core_looker_right_ok⟩
 ·rename_i e; have e := Nat.eq_of_beq_eq_true e; subst e; injection h with h; subst h; exact ⟨_, _, F.value_has_ok⟩
 ·rename_i e; have e := Nat.eq_of_beq_eq_true e; subst e; injection h with h; subst h; exact ⟨_, _, F.value_Size_ok⟩
 ·rename_i e; have e := Nat.eq_of_beq_eq_true e; subst e; injection h with h; subst h; exact ⟨_, _, F.slices_Clone_Sint_int_ok⟩
 ·rename_i e; have e := Nat.eq_of_beq_eq_true e; subst e; injection h with h; subst h; exact ⟨_, _, F.ref01_Small_ok⟩
 ·rename_i e; have e := Nat.eq_of_beq_eq_true e; subst e; injection h with h; subst h; exact ⟨_, _, F.ref01_even_ok⟩
 ·rename_i e; have e := Nat.eq_of_beq_eq_true e; subst e; injection h with h; subst h; exact ⟨_, _, F.ref01_half_ok⟩
 ·rename_i e; have e := Nat.eq_of_beq_eq_true e; subst e; injection h with h; subst h; exact ⟨_, _, F.ref01_short_ok⟩
 ·rename_i e; have e := Nat.eq_of_beq_eq_true e; subst e; injection h with h; subst h; exact ⟨_, _, F.ref01_guess_ok⟩
 ·rename_i e; have e := Nat.eq_of_beq_eq_true e; subst e; injection h with h; subst h; exact ⟨_, _, F.ref01_times_ok⟩
 ·rename_i e; have e := Nat.eq_of_beq_eq_true e; subst e; injection h with h; subst h; exact ⟨_, _, F.nat_Gcd_ok⟩
 ·rename_i e; have e := Nat.eq_of_beq_eq_true e; subst e; injection h with h; subst h; exact ⟨_, _, F.nat_Div_ok⟩
 ·rename_i e; have e := Nat.eq_of_beq_eq_true e; subst e; injection h with h; subst h; exact ⟨_, _, F.cmp_isNaN_int_ok⟩
 ·rename_i e; have e := Nat.eq_of_beq_eq_true e; subst e; injection h with h; subst h; exact ⟨_, _, F.own_Value_ok⟩
 ·rename_i e; have e := Nat.eq_of_beq_eq_true e; subst e; injection h with h; subst h; exact ⟨_, _, F.slices_ContainsFunc_Type_Type_ok⟩
 ·rename_i e; have e := Nat.eq_of_beq_eq_true e; subst e; injection h with h; subst h; exact ⟨_, _, F.value_deep_1_ok⟩
 ·rename_i e; have e := Nat.eq_of_beq_eq_true e; subst e; injection h with h; subst h; exact ⟨_, _, F.core_looker_kids_ok⟩
 ·rename_i e; have e := Nat.eq_of_beq_eq_true e; subst e; injection h with h; subst h; exact ⟨_, _, F.value_Right_ok⟩
 ·rename_i e; have e := Nat.eq_of_beq_eq_true e; subst e; injection h with h; subst h; exact ⟨_, _, F.slices_ContainsFunc_Sint_int_ok⟩
 ·rename_i e; have e := Nat.eq_of_beq_eq_true e; subst e; injection h with h; subst h; exact ⟨_, _, F.core_looker_right_1_ok⟩
 ·rename_i e; have e := Nat.eq_of_beq_eq_true e; subst e; injection h with h; subst h; exact ⟨_, _, F.slices_ContainsFunc_Value_Value_ok⟩
 ·rename_i e; have e := Nat.eq_of_beq_eq_true e; subst e; injection h with h; subst h; exact ⟨_, _, F.value_has_1_ok⟩
 ·rename_i e; have e := Nat.eq_of_beq_eq_true e; subst e; injection h with h; subst h; exact ⟨_, _, F.play_Player_term_ok⟩
 ·rename_i e; have e := Nat.eq_of_beq_eq_true e; subst e; injection h with h; subst h; exact ⟨_, _, F.nat_short_ok⟩
 ·rename_i e; have e := Nat.eq_of_beq_eq_true e; subst e; injection h with h; subst h; exact ⟨_, _, F.math_bits_LeadingZeros32_ok⟩
 ·rename_i e; have e := Nat.eq_of_beq_eq_true e; subst e; injection h with h; subst h; exact ⟨_, _, F.nat_shifted_ok⟩
 ·rename_i e; have e := Nat.eq_of_beq_eq_true e; subst e; injection h with h; subst h; exact ⟨_, _, F.own_Values_ok⟩
 ·rename_i e; have e := Nat.eq_of_beq_eq_true e; subst e; injection h with h; subst h; exact ⟨_, _, F.slices_IndexFunc_Type_Type_ok⟩
 ·rename_i e; have e := Nat.eq_of_beq_eq_true e; subst e; injection h with h; subst h; exact ⟨_, _, F.value_shape_ok⟩
 ·rename_i e; have e := Nat.eq_of_beq_eq_true e; subst e; injection h with h; subst h; exact ⟨_, _, F.value_closed_ok⟩
 ·rename_i e; have e := Nat.eq_of_beq_eq_true e; subst e; injection h with h; subst h; exact ⟨_, _, F.slices_IndexFunc_Sint_int_ok⟩
 ·rename_i e; have e := Nat.eq_of_beq_eq_true e; subst e; injection h with h; subst h; exact ⟨_, _, F.slices_IndexFunc_Value_Value_ok⟩
 ·rename_i e; have e := Nat.eq_of_beq_eq_true e; subst e; injection h with h; subst h; exact ⟨_, _, F.play_Player_step_ok⟩
 ·rename_i e; have e := Nat.eq_of_beq_eq_true e; subst e; injection h with h; subst h; exact ⟨_, _, F.play_Player_observe_ok⟩
 ·rename_i e; have e := Nat.eq_of_beq_eq_true e; subst e; injection h with h; subst h; exact ⟨_, _, F.math_bits_Len32_ok⟩
 ·rename_i e; have e := Nat.eq_of_beq_eq_true e; subst e; injection h with h; subst h; exact ⟨_, _, F.value_join_ok⟩
 ·rename_i e; have e := Nat.eq_of_beq_eq_true e; subst e; injection h with h; subst h; exact ⟨_, _, F.play_Player_weighed_ok⟩
 ·rename_i e; have e := Nat.eq_of_beq_eq_true e; subst e; injection h with h; subst h; exact ⟨_, _, F.play_Player_times_ok⟩
 ·rename_i e; have e := Nat.eq_of_beq_eq_true e; subst e; injection h with h; subst h; exact ⟨_, _, F.play_whole_ok⟩
 ·rename_i e; have e := Nat.eq_of_beq_eq_true e; subst e; injection h with h; subst h; exact ⟨_, _, F.ratio_Make_ok⟩
 ·rename_i e; have e := Nat.eq_of_beq_eq_true e; subst e; injection h with h; subst h; exact ⟨_, _, F.ratio_size_ok⟩
def alivWE (f : Nat) : Option MFnE := match Nat.beq f F.play_Player_Go with | true => some F.play_Player_Go_c | false => none
theorem alivWE_ok : TabE Tryz.prog alivWE := by
 intro f mf h
 unfold alivWE at h
 split at h
 ·rename_i e
  have e := Nat.eq_of_beq_eq_true e
  subst e
  injection h with h; subst h
  exact ⟨_, _, F.play_Player_Go_ok⟩
 ·simp at h
def alivWD (k : Nat) : Bool := match Nat.beq k F.play_Player_Go_c.k with | true => true | false => false
theorem alivWD_ok : DOK Tryz.prog alivWD := by
 intro k h
 unfold alivWD at h
 split at h
 ·rename_i e
  have e := Nat.eq_of_beq_eq_true e
  subst e
  exact ⟨by kernel_rfl, idleB_of (by kernel_rfl)⟩
 ·simp at h
def alivWX (f : Nat) : Bool := match Nat.beq f F.nat_shifted || (Nat.beq f F.core_looker_body || (Nat.beq f F.core_looker_right || (Nat.beq f F.core_looker_kids || (Nat.beq f F.play_Each || (Nat.beq f F.play_All_1 || (Nat.beq f F.play_Player_Go || (Nat.beq f F.play_Player_term || (Nat.beq f F.play_Player_step || (Nat.beq f F.play_Player_observe || (Nat.beq f F.play_Player_weighed || Nat.beq f F.play_Player_times)))))))))) with | true => true | false => false
theorem clone_Sint0 : CallD Tryz.prog F.slices_Clone_Sint_int [.dat []] (· = .dat []) := by
 refine CallD.empty1 ?_ ?_ <;> refine callD_by F.slices_Clone_Sint_int_ok ?_ <;> unfold F.slices_Clone_Sint_int_c <;> simp
 rfl
def alivWB (f : Nat) (ds : List V) : Option V := match Nat.beq f F.slices_Clone_Nat_uint32 || Nat.beq f F.slices_Clone_Sint_int, ds with | true, [.dat []] => some (.dat []) | _, _ => none
theorem alivWB_ok : BOK Tryz.prog alivWB := by
 intro f ds d h
 unfold alivWB at h
 split at h
 ·rename_i e
  injection h with h
  subst h
  rw [Bool.or_eq_true] at e
  rcases e with e | e
  ·have e := Nat.eq_of_beq_eq_true e
   subst e
   exact slices_Clone (l := []) (by simp)
  ·have e := Nat.eq_of_beq_eq_true e
   subst e
   exact clone_Sint0
 ·simp at h
set_option maxRecDepth 100000 in
theorem law31_alive : CallD Tryz.prog F.law31_alive [] (· = .bool true) :=
 callD_runY (X := alivWX) TAlivWT_ok alivWE_ok alivWD_ok alivWB_ok 60 (by kernel_rfl)
end Go.Proofs.YtkockkfmjmheeaaGreat
