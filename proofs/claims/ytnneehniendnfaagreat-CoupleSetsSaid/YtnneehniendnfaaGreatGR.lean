/- Joined texts: TAlive, CAlive. -/
import Derived.Test.YtnneehniendnfaaGreatGE
import Derived.Test.YtnneehniendnfaaGreatGC
import Derived.Test.YtnneehniendnfaaGreatProg
import Derived.KernelRfl
import Derived.Test.YtnneehniendnfaaGreatGH
import Derived.Test.YtnneehniendnfaaGreatGO
import Derived.Test.YtnneehniendnfaaGreatGP
import Derived.Test.YtnneehniendnfaaGreatGL
import Derived.Test.YtnneehniendnfaaGreatGN
import Derived.Test.YtnneehniendnfaaGreatGM
import Derived.Test.YtnneehniendnfaaGreatGJ
import Derived.Test.YtnneehniendnfaaGreatGI
import Derived.Test.YtnneehniendnfaaGreatGK
/- Functions of the program, as the engine reads them; each is held against the translation. -/
namespace Go.Proofs.YtnneehniendnfaaGreat.F
open Go Go.Proofs Go.Proofs.YtnneehniendnfaaGreat.E
abbrev law35_alive : Nat := 19
def law35_alive_c : MFn :=
  ⟨43, (.seq (.region [⟨(some 0), .mv (.c (.bool false)), none⟩] (some []))
  (.seq (.region [⟨(some 6), .call 59 [(.c (.int .i64 1))], none⟩,
    ⟨(some 7), .call 59 [(.c (.int .i64 2))], none⟩,
    ⟨(some 8), .call 20 [(.t 6), (.t 7)], none⟩,
    ⟨(some 5), .mv (.t 8), none⟩,
    ⟨(some 9), .ext (.t 5) 0, none⟩,
    ⟨(some 10), .ext (.t 5) 1, none⟩,
    ⟨(some 1), .alloc [.bool false, .nils, .nils], none⟩,
    ⟨none, .st 3 (.t 1) (.t 9), none⟩,
    ⟨(some 2), .mv (.t 10), none⟩] (some [1, 2]))
  (.seq (.region [⟨(some 12), .call 59 [(.c (.int .i64 1))], none⟩,
    ⟨(some 13), .call 59 [(.c (.int .i64 2))], none⟩,
    ⟨(some 14), .call 22 [(.t 12), (.t 13)], none⟩,
    ⟨(some 11), .mv (.t 14), none⟩,
    ⟨(some 15), .ext (.t 11) 0, none⟩,
    ⟨(some 16), .ext (.t 11) 1, none⟩,
    ⟨(some 3), .mv (.t 15), none⟩,
    ⟨(some 4), .mv (.t 16), none⟩] (some [1, 2, 3, 4]))
  (.seq (.region [⟨(some 17), .mv (.t 2), none⟩,
    ⟨(some 18), .bin .eql (.t 17) (.c (.int .i64 0)), none⟩,
    ⟨(some 19), .mv (.t 18), none⟩,
    ⟨(some 20), .mv (.t 4), (some (19, true))⟩,
    ⟨(some 21), .bin .eql (.t 20) (.c (.int .i64 0)), (some (19, true))⟩,
    ⟨(some 22), .pick (.t 19) (.t 21) (.c (.bool false)), none⟩,
    ⟨(some 23), .mv (.t 22), none⟩,
    ⟨(some 24), .ld (some 3) (.t 1), (some (23, true))⟩,
    ⟨(some 25), .callF 53 [], (some (23, true))⟩,
    ⟨(some 26), .callF 24 [(.t 24), (.t 25)], (some (23, true))⟩,
    ⟨(some 27), .pick (.t 23) (.t 26) (.c (.bool false)), none⟩,
    ⟨(some 28), .mv (.t 27), none⟩,
    ⟨(some 29), .mv (.t 3), (some (28, true))⟩,
    ⟨(some 30), .lenS (.t 29), (some (28, true))⟩,
    ⟨(some 31), .bin .eql (.t 30) (.c (.int .i64 1)), (some (28, true))⟩,
    ⟨(some 32), .pick (.t 28) (.t 31) (.c (.bool false)), none⟩,
    ⟨(some 33), .mv (.t 32), none⟩,
    ⟨(some 34), .callF 59 [(.c (.int .i64 1))], (some (33, true))⟩,
    ⟨(some 35), .callF 59 [(.c (.int .i64 2))], (some (33, true))⟩,
    ⟨(some 36), .mv (.t 3), (some (33, true))⟩,
    ⟨(some 37), .callF 16 [(.t 34), (.t 35), (.t 36)], (some (33, true))⟩,
    ⟨(some 38), .pick (.t 33) (.t 37) (.c (.bool false)), none⟩,
    ⟨(some 39), .mv (.t 38), none⟩,
    ⟨(some 40), .callF 59 [(.c (.int .i64 1))], (some (39, true))⟩,
    ⟨(some 41), .callF 14 [(.t 40)], (some (39, true))⟩,
    ⟨(some 42), .pick (.t 39) (.t 41) (.c (.bool false)), none⟩,
    ⟨(some 0), .mv (.t 42), none⟩] (some [0]))
  .ret)))), [.t 0]⟩
theorem law35_alive_ok : cFn Tryz.prog (kps [[], [1, 2], [1, 2, 3, 4], [0]]) [] 19 = some law35_alive_c := by kernel_rfl
abbrev couple_Apart : Nat := 20
def couple_Apart_c : MFn :=
  ⟨50, (.seq (.region [⟨(some 4), .alloc [.bool false, .nils, .nils], none⟩,
    ⟨(some 5), .mv (.c (.int .i64 0)), none⟩] (some [0, 1, 4]))
  (.seq (.seq (.region [⟨(some 11), .mv (.t 0), none⟩,
    ⟨(some 12), .call 14 [(.t 11)], none⟩,
    ⟨(some 13), .un .not (.t 12), none⟩,
    ⟨(some 14), .mv (.t 13), none⟩,
    ⟨(some 15), .mv (.t 1), (some (14, false))⟩,
    ⟨(some 16), .call 14 [(.t 15)], (some (14, false))⟩,
    ⟨(some 17), .un .not (.t 16), (some (14, false))⟩,
    ⟨(some 18), .pick (.t 14) (.c (.bool true)) (.t 17), none⟩] (some [0, 1, 4, 18]))
  (.cond (.t 18)
    (.seq (.region [⟨(some 19), .build [.bool false, .nils, .nils] [], none⟩,
      ⟨none, .st 3 (.t 4) (.t 19), none⟩,
      ⟨(some 5), .mv (.c (.int .i64 1)), none⟩] (some [4, 5]))
    .ret)
    .skip))
  (.seq (.region [⟨(some 20), .call 41 [], none⟩,
    ⟨(some 6), .alloc [.bool false, .nils, .nils], none⟩,
    ⟨none, .st 3 (.t 6) (.t 20), none⟩] (some [0, 1, 4, 6]))
  (.seq (.seq (.region [⟨(some 21), .mv (.t 0), none⟩,
    ⟨(some 22), .lenS (.t 21), none⟩,
    ⟨(some 23), .mv (.c (.int .i64 0)), none⟩] (some [1, 4, 6, 21, 22, 23]))
  (.block 0 (.loop (.seq (.region [⟨(some 24), .bin .lss (.t 23) (.t 22), none⟩] (some [1, 4, 6, 21, 22, 23, 24]))
      (.seq (.cond (.t 24)
        .skip
        (.exit 0))
      (.seq (.block 1 (.seq (.region [⟨(some 25), .ixA 6 (.t 21) (.t 23), none⟩,
          ⟨(some 26), .ld (some 6) (.t 25), none⟩,
          ⟨(some 8), .alloc [.int .i64 0, .int .i64 0, .nils, .bool false, .nils, .nils], none⟩,
          ⟨none, .st 6 (.t 8) (.t 26), none⟩] (some [1, 4, 6, 8, 21, 22, 23]))
        (.seq (.region [⟨(some 27), .fA 3 (.t 8), none⟩,
          ⟨(some 28), .ld (some 3) (.t 27), none⟩,
          ⟨(some 9), .alloc [.bool false, .nils, .nils], none⟩,
          ⟨none, .st 3 (.t 9) (.t 28), none⟩] (some [1, 4, 6, 8, 9, 21, 22, 23]))
        (.seq (.seq (.region [⟨(some 29), .mv (.t 1), none⟩,
          ⟨(some 30), .fA 0 (.t 8), none⟩,
          ⟨(some 31), .ld (some 3) (.t 30), none⟩,
          ⟨(some 32), .call 60 [(.t 29), (.t 31)], none⟩,
          ⟨(some 10), .mv (.t 32), none⟩] (some [1, 4, 6, 9, 10, 21, 22, 23]))
        (.seq (.region [⟨(some 33), .mv (.t 10), none⟩,
          ⟨(some 34), .bin .geq (.t 33) (.c (.int .i64 0)), none⟩] (some [1, 4, 6, 9, 10, 21, 22, 23, 34]))
        (.cond (.t 34)
          (.region [⟨(some 35), .ld (some 3) (.t 9), none⟩,
            ⟨(some 36), .mv (.t 1), none⟩,
            ⟨(some 37), .mv (.t 10), none⟩,
            ⟨(some 38), .ixA 6 (.t 36) (.t 37), none⟩,
            ⟨(some 39), .fA 3 (.t 38), none⟩,
            ⟨(some 40), .ld (some 3) (.t 39), none⟩,
            ⟨(some 41), .callF 56 [(.t 35), (.t 40)], none⟩,
            ⟨none, .st 3 (.t 9) (.t 41), none⟩] (some [1, 4, 6, 9, 21, 22, 23]))
          .skip)))
        (.seq (.region [⟨(some 42), .fA 0 (.t 9), none⟩,
          ⟨(some 43), .ld none (.t 42), none⟩,
          ⟨(some 44), .un .not (.t 43), none⟩] (some [1, 4, 6, 9, 21, 22, 23, 44]))
        (.cond (.t 44)
          (.region [⟨(some 45), .ld (some 3) (.t 6), none⟩,
            ⟨(some 46), .ld (some 3) (.t 9), none⟩,
            ⟨(some 47), .call 46 [(.t 45), (.t 46)], none⟩,
            ⟨none, .st 3 (.t 6) (.t 47), none⟩] (some [1, 4, 6, 21, 22, 23]))
          .skip))))))
      (.region [⟨(some 48), .bin .add (.t 23) (.c (.int .i64 1)), none⟩,
        ⟨(some 23), .mv (.t 48), none⟩] (some [1, 4, 6, 21, 22, 23]))))))))
  (.seq (.region [⟨(some 49), .ld (some 3) (.t 6), none⟩,
    ⟨none, .st 3 (.t 4) (.t 49), none⟩,
    ⟨(some 5), .mv (.c (.int .i64 0)), none⟩] (some [4, 5]))
  .ret))))), [.cell 4 (some 3), .t 5]⟩
theorem couple_Apart_ok : cFn Tryz.prog (kps [[0, 1, 4], [0, 1, 4, 18], [4, 5], [0, 1, 4, 6], [1, 4, 6, 21, 22, 23], [1, 4, 6, 21, 22, 23, 24], [1, 4, 6, 8, 21, 22, 23], [1, 4, 6, 8, 9, 21, 22, 23], [1, 4, 6, 9, 10, 21, 22, 23], [1, 4, 6, 9, 10, 21, 22, 23, 34], [1, 4, 6, 9, 21, 22, 23], [1, 4, 6, 9, 21, 22, 23, 44], [1, 4, 6, 21, 22, 23], [1, 4, 6, 21, 22, 23], [4, 5]]) [] 20 = some couple_Apart_c := by kernel_rfl
abbrev couple_Best : Nat := 22
def couple_Best_c : MFn :=
  ⟨79, (.seq (.region [⟨(some 4), .mv (.c (.nils)), none⟩,
    ⟨(some 5), .mv (.c (.int .i64 0)), none⟩] (some [0, 1]))
  (.seq (.seq (.region [⟨(some 13), .mv (.t 0), none⟩,
    ⟨(some 14), .call 14 [(.t 13)], none⟩,
    ⟨(some 15), .un .not (.t 14), none⟩,
    ⟨(some 16), .mv (.t 15), none⟩,
    ⟨(some 17), .mv (.t 1), (some (16, false))⟩,
    ⟨(some 18), .call 14 [(.t 17)], (some (16, false))⟩,
    ⟨(some 19), .un .not (.t 18), (some (16, false))⟩,
    ⟨(some 20), .pick (.t 16) (.c (.bool true)) (.t 19), none⟩] (some [0, 1, 20]))
  (.cond (.t 20)
    (.seq (.region [⟨(some 4), .mv (.c (.nils)), none⟩,
      ⟨(some 5), .mv (.c (.int .i64 1)), none⟩] (some [4, 5]))
    .ret)
    .skip))
  (.seq (.region [⟨(some 21), .mv (.t 0), none⟩,
    ⟨(some 22), .call 54 [(.t 21)], none⟩,
    ⟨(some 23), .mv (.t 1), none⟩,
    ⟨(some 24), .call 54 [(.t 23)], none⟩,
    ⟨(some 6), .mv (.t 22), none⟩,
    ⟨(some 7), .mv (.t 24), none⟩] (some [0, 1, 6, 7]))
  (.seq (.region [⟨(some 8), .mv (.c (.nils)), none⟩] (some [0, 1, 6, 7, 8]))
  (.seq (.seq (.region [⟨(some 25), .mv (.t 0), none⟩,
    ⟨(some 26), .lenS (.t 25), none⟩,
    ⟨(some 27), .mv (.c (.int .i64 0)), none⟩] (some [1, 6, 7, 8, 25, 26, 27]))
  (.block 0 (.loop (.seq (.region [⟨(some 28), .bin .lss (.t 27) (.t 26), none⟩] (some [1, 6, 7, 8, 25, 26, 27, 28]))
      (.seq (.cond (.t 28)
        .skip
        (.exit 0))
      (.seq (.block 1 (.seq (.region [⟨(some 29), .mv (.t 27), none⟩,
          ⟨(some 30), .ixA 6 (.t 25) (.t 27), none⟩,
          ⟨(some 31), .ld (some 6) (.t 30), none⟩,
          ⟨(some 10), .alloc [.int .i64 0, .int .i64 0, .nils, .bool false, .nils, .nils], none⟩,
          ⟨(some 9), .mv (.t 29), none⟩,
          ⟨none, .st 6 (.t 10) (.t 31), none⟩] (some [1, 6, 7, 8, 9, 10, 25, 26, 27]))
        (.seq (.region [⟨(some 32), .mv (.t 1), none⟩,
          ⟨(some 33), .fA 0 (.t 10), none⟩,
          ⟨(some 34), .ld (some 3) (.t 33), none⟩,
          ⟨(some 35), .call 60 [(.t 32), (.t 34)], none⟩,
          ⟨(some 11), .mv (.t 35), none⟩] (some [1, 6, 7, 8, 9, 11, 25, 26, 27]))
        (.seq (.region [⟨(some 36), .mv (.t 11), none⟩,
          ⟨(some 37), .bin .geq (.t 36) (.c (.int .i64 0)), none⟩] (some [1, 6, 7, 8, 9, 11, 25, 26, 27, 37]))
        (.cond (.t 37)
          (.seq (.region [⟨(some 38), .mv (.t 6), none⟩,
            ⟨(some 39), .mv (.t 9), none⟩,
            ⟨(some 40), .ixA 3 (.t 38) (.t 39), none⟩,
            ⟨(some 41), .ld (some 3) (.t 40), none⟩,
            ⟨(some 42), .mv (.t 7), none⟩,
            ⟨(some 43), .mv (.t 11), none⟩,
            ⟨(some 44), .ixA 3 (.t 42) (.t 43), none⟩,
            ⟨(some 45), .ld (some 3) (.t 44), none⟩,
            ⟨(some 46), .callF 64 [(.t 41), (.t 45)], none⟩,
            ⟨(some 12), .alloc [.bool false, .nils, .nils], none⟩,
            ⟨none, .st 3 (.t 12) (.t 46), none⟩] (some [1, 6, 7, 8, 9, 11, 12, 25, 26, 27]))
          (.seq (.region [⟨(some 47), .mv (.t 8), none⟩,
            ⟨(some 48), .mv (.t 9), none⟩,
            ⟨(some 49), .mv (.t 11), none⟩,
            ⟨(some 50), .ld (some 3) (.t 12), none⟩,
            ⟨(some 51), .build [.int .i64 0, .int .i64 0, .bool false, .nils, .nils] [(0, 1, (.t 48)), (1, 1, (.t 49)), (2, 3, (.t 50))], none⟩,
            ⟨(some 52), .buildSl 5 1 [.int .i64 0, .int .i64 0, .bool false, .nils, .nils] [(0, (.t 51))], none⟩,
            ⟨(some 53), .app 5 72 (.t 47) (.t 52), none⟩,
            ⟨(some 8), .mv (.t 53), none⟩] (some [1, 6, 7, 8, 9, 11, 12, 25, 26, 27]))
          (.region [⟨(some 54), .mv (.t 6), none⟩,
            ⟨(some 55), .mv (.t 9), none⟩,
            ⟨(some 56), .mv (.t 7), none⟩,
            ⟨(some 57), .mv (.t 11), none⟩,
            ⟨(some 58), .mv (.t 6), none⟩,
            ⟨(some 59), .mv (.t 9), none⟩,
            ⟨(some 60), .ixA 3 (.t 58) (.t 59), none⟩,
            ⟨(some 61), .ld (some 3) (.t 60), none⟩,
            ⟨(some 62), .ld (some 3) (.t 12), none⟩,
            ⟨(some 63), .callF 56 [(.t 61), (.t 62)], none⟩,
            ⟨(some 64), .mv (.t 7), none⟩,
            ⟨(some 65), .mv (.t 11), none⟩,
            ⟨(some 66), .ixA 3 (.t 64) (.t 65), none⟩,
            ⟨(some 67), .ld (some 3) (.t 66), none⟩,
            ⟨(some 68), .ld (some 3) (.t 12), none⟩,
            ⟨(some 69), .callF 56 [(.t 67), (.t 68)], none⟩,
            ⟨(some 70), .ixA 3 (.t 54) (.t 55), none⟩,
            ⟨none, .st 3 (.t 70) (.t 63), none⟩,
            ⟨(some 71), .ixA 3 (.t 56) (.t 57), none⟩,
            ⟨none, .st 3 (.t 71) (.t 69), none⟩] (some [1, 6, 7, 8, 25, 26, 27]))))
          .skip)))))
      (.region [⟨(some 72), .bin .add (.t 27) (.c (.int .i64 1)), none⟩,
        ⟨(some 27), .mv (.t 72), none⟩] (some [1, 6, 7, 8, 25, 26, 27]))))))))
  (.seq (.region [⟨(some 73), .mv (.t 8), none⟩,
    ⟨(some 74), .mv (.t 6), none⟩,
    ⟨(some 75), .mv (.t 7), none⟩,
    ⟨(some 76), .call 66 [(.t 74), (.t 75)], none⟩,
    ⟨(some 77), .app 5 72 (.t 73) (.t 76), none⟩,
    ⟨(some 78), .call 65 [(.t 77)], none⟩,
    ⟨(some 4), .mv (.t 78), none⟩,
    ⟨(some 5), .mv (.c (.int .i64 0)), none⟩] (some [4, 5]))
  .ret)))))), [.t 4, .t 5]⟩
theorem couple_Best_ok : cFn Tryz.prog (kps [[0, 1], [0, 1, 20], [4, 5], [0, 1, 6, 7], [0, 1, 6, 7, 8], [1, 6, 7, 8, 25, 26, 27], [1, 6, 7, 8, 25, 26, 27, 28], [1, 6, 7, 8, 9, 10, 25, 26, 27], [1, 6, 7, 8, 9, 11, 25, 26, 27], [1, 6, 7, 8, 9, 11, 25, 26, 27, 37], [1, 6, 7, 8, 9, 11, 12, 25, 26, 27], [1, 6, 7, 8, 9, 11, 12, 25, 26, 27], [1, 6, 7, 8, 25, 26, 27], [1, 6, 7, 8, 25, 26, 27], [4, 5]]) [] 22 = some couple_Best_c := by kernel_rfl
abbrev law35_sure : Nat := 59
def law35_sure_c : MFn :=
  ⟨8, (.seq (.region [⟨(some 2), .mv (.c (.nils)), none⟩] (some [0]))
  (.seq (.region [⟨(some 3), .mv (.t 0), none⟩,
    ⟨(some 4), .build [.int .i64 0, .int .i64 0, .nils] [(0, 1, (.c (.int .i64 2))), (1, 1, (.t 3))], none⟩,
    ⟨(some 5), .call 53 [], none⟩,
    ⟨(some 6), .build [.int .i64 0, .int .i64 0, .nils, .bool false, .nils, .nils] [(0, 3, (.t 4)), (3, 3, (.t 5))], none⟩,
    ⟨(some 7), .buildSl 6 1 [.int .i64 0, .int .i64 0, .nils, .bool false, .nils, .nils] [(0, (.t 6))], none⟩,
    ⟨(some 2), .mv (.t 7), none⟩] (some [2]))
  .ret)), [.t 2]⟩
theorem law35_sure_ok : cFn Tryz.prog (kps [[0], [2]]) [] 59 = some law35_sure_c := by kernel_rfl
abbrev couple_place : Nat := 60
def couple_place_c : MFn :=
  ⟨16, (.seq (.region [⟨(some 3), .box (.t 1), none⟩,
    ⟨(some 4), .mv (.c (.int .i64 0)), none⟩] (some [0, 3]))
  (.seq (.region [⟨(some 8), .mv (.t 0), none⟩,
    ⟨(some 9), .ld (some 3) (.t 3), none⟩,
    ⟨(some 10), .call 111 [(.t 8), (.t 9), (.c (.clo 112 []))], none⟩,
    ⟨(some 7), .mv (.t 10), none⟩,
    ⟨(some 11), .ext (.t 7) 0, none⟩,
    ⟨(some 12), .ext (.t 7) 1, none⟩,
    ⟨(some 5), .mv (.t 11), none⟩,
    ⟨(some 6), .mv (.t 12), none⟩] (some [5, 6]))
  (.seq (.seq (.region [⟨(some 13), .mv (.t 6), none⟩,
    ⟨(some 14), .un .not (.t 13), none⟩] (some [5, 14]))
  (.cond (.t 14)
    (.seq (.region [⟨(some 4), .mv (.c (.int .i64 (-1))), none⟩] (some [4]))
    .ret)
    .skip))
  (.seq (.region [⟨(some 15), .mv (.t 5), none⟩,
    ⟨(some 4), .mv (.t 15), none⟩] (some [4]))
  .ret)))), [.t 4]⟩
theorem couple_place_ok : cFn Tryz.prog (kps [[0, 3], [5, 6], [5, 14], [4], [4]]) [] 60 = some couple_place_c := by kernel_rfl
abbrev couple_gathered : Nat := 65
def couple_gathered_c : MFn :=
  ⟨47, (.seq (.region [⟨(some 2), .mv (.c (.nils)), none⟩] (some [0]))
  (.seq (.region [⟨(some 7), .mv (.t 0), none⟩,
    ⟨(some 8), .call 114 [(.t 7), (.c (.clo 55 []))], none⟩] (some [0]))
  (.seq (.region [⟨(some 3), .mv (.c (.nils)), none⟩] (some [0, 3]))
  (.seq (.seq (.region [⟨(some 9), .mv (.t 0), none⟩,
    ⟨(some 10), .lenS (.t 9), none⟩,
    ⟨(some 11), .mv (.c (.int .i64 0)), none⟩] (some [3, 9, 10, 11]))
  (.block 0 (.loop (.seq (.region [⟨(some 12), .bin .lss (.t 11) (.t 10), none⟩] (some [3, 9, 10, 11, 12]))
      (.seq (.cond (.t 12)
        .skip
        (.exit 0))
      (.seq (.block 1 (.seq (.region [⟨(some 13), .ixA 5 (.t 9) (.t 11), none⟩,
          ⟨(some 14), .ld (some 5) (.t 13), none⟩,
          ⟨(some 5), .alloc [.int .i64 0, .int .i64 0, .bool false, .nils, .nils], none⟩,
          ⟨none, .st 5 (.t 5) (.t 14), none⟩] (some [3, 5, 9, 10, 11]))
        (.seq (.seq (.region [⟨(some 15), .mv (.t 3), none⟩,
          ⟨(some 16), .lenS (.t 15), none⟩,
          ⟨(some 17), .bin .sub (.t 16) (.c (.int .i64 1)), none⟩,
          ⟨(some 6), .mv (.t 17), none⟩] (some [3, 5, 6, 9, 10, 11]))
        (.seq (.region [⟨(some 18), .mv (.t 6), none⟩,
          ⟨(some 19), .bin .geq (.t 18) (.c (.int .i64 0)), none⟩,
          ⟨(some 20), .mv (.t 19), none⟩,
          ⟨(some 21), .mv (.t 3), (some (20, true))⟩,
          ⟨(some 22), .mv (.t 6), (some (20, true))⟩,
          ⟨(some 23), .ixA 5 (.t 21) (.t 22), (some (20, true))⟩,
          ⟨(some 24), .ld (some 5) (.t 23), (some (20, true))⟩,
          ⟨(some 25), .ld (some 5) (.t 5), (some (20, true))⟩,
          ⟨(some 26), .callF 55 [(.t 24), (.t 25)], (some (20, true))⟩,
          ⟨(some 27), .bin .eql (.t 26) (.c (.int .i64 0)), (some (20, true))⟩,
          ⟨(some 28), .pick (.t 20) (.t 27) (.c (.bool false)), none⟩] (some [3, 5, 6, 9, 10, 11, 28]))
        (.cond (.t 28)
          (.seq (.region [⟨(some 29), .mv (.t 3), none⟩,
            ⟨(some 30), .mv (.t 6), none⟩,
            ⟨(some 31), .mv (.t 3), none⟩,
            ⟨(some 32), .mv (.t 6), none⟩,
            ⟨(some 33), .ixA 5 (.t 31) (.t 32), none⟩,
            ⟨(some 34), .fA 2 (.t 33), none⟩,
            ⟨(some 35), .ld (some 3) (.t 34), none⟩,
            ⟨(some 36), .fA 2 (.t 5), none⟩,
            ⟨(some 37), .ld (some 3) (.t 36), none⟩,
            ⟨(some 38), .callF 46 [(.t 35), (.t 37)], none⟩,
            ⟨(some 39), .ixA 5 (.t 29) (.t 30), none⟩,
            ⟨(some 40), .fA 2 (.t 39), none⟩,
            ⟨none, .st 3 (.t 40) (.t 38), none⟩] (some [3, 9, 10, 11]))
          (.exit 1))
          .skip)))
        (.region [⟨(some 41), .mv (.t 3), none⟩,
          ⟨(some 42), .ld (some 5) (.t 5), none⟩,
          ⟨(some 43), .buildSl 5 1 [.int .i64 0, .int .i64 0, .bool false, .nils, .nils] [(0, (.t 42))], none⟩,
          ⟨(some 44), .app 5 72 (.t 41) (.t 43), none⟩,
          ⟨(some 3), .mv (.t 44), none⟩] (some [3, 9, 10, 11])))))
      (.region [⟨(some 45), .bin .add (.t 11) (.c (.int .i64 1)), none⟩,
        ⟨(some 11), .mv (.t 45), none⟩] (some [3, 9, 10, 11]))))))))
  (.seq (.region [⟨(some 46), .mv (.t 3), none⟩,
    ⟨(some 2), .mv (.t 46), none⟩] (some [2]))
  .ret))))), [.t 2]⟩
theorem couple_gathered_ok : cFn Tryz.prog (kps [[0], [0], [0, 3], [3, 9, 10, 11], [3, 9, 10, 11, 12], [3, 5, 9, 10, 11], [3, 5, 6, 9, 10, 11], [3, 5, 6, 9, 10, 11, 28], [3, 9, 10, 11], [3, 9, 10, 11], [3, 9, 10, 11], [2]]) [] 65 = some couple_gathered_c := by kernel_rfl
abbrev couple_inOrder : Nat := 66
def couple_inOrder_c : MFn :=
  ⟨74, (.seq (.region [⟨(some 4), .mv (.c (.nils)), none⟩] (some [0, 1]))
  (.seq (.region [⟨(some 5), .mv (.c (.nils)), none⟩] (some [0, 1, 5]))
  (.seq (.seq (.region [⟨(some 6), .mv (.c (.int .i64 0)), none⟩,
    ⟨(some 7), .mv (.c (.int .i64 0)), none⟩] (some [0, 1, 5, 6, 7]))
  (.block 0 (.loop (.seq (.seq (.region [⟨(some 9), .mv (.t 6), none⟩,
        ⟨(some 10), .mv (.t 0), none⟩,
        ⟨(some 11), .lenS (.t 10), none⟩,
        ⟨(some 12), .bin .lss (.t 9) (.t 11), none⟩,
        ⟨(some 13), .mv (.t 12), none⟩,
        ⟨(some 14), .mv (.t 7), (some (13, true))⟩,
        ⟨(some 15), .mv (.t 1), (some (13, true))⟩,
        ⟨(some 16), .lenS (.t 15), (some (13, true))⟩,
        ⟨(some 17), .bin .lss (.t 14) (.t 16), (some (13, true))⟩,
        ⟨(some 18), .pick (.t 13) (.t 17) (.c (.bool false)), none⟩] (some [0, 1, 5, 6, 7, 18]))
      (.cond (.t 18)
        .skip
        (.exit 0)))
      (.block 1 (.block 2 (.seq (.region [⟨(some 54), .mv (.t 0), none⟩,
            ⟨(some 55), .mv (.t 6), none⟩,
            ⟨(some 56), .ixA 3 (.t 54) (.t 55), none⟩,
            ⟨(some 57), .fA 1 (.t 56), none⟩,
            ⟨(some 58), .ld none (.t 57), none⟩,
            ⟨(some 59), .lenS (.t 58), none⟩,
            ⟨(some 60), .bin .eql (.t 59) (.c (.int .i64 0)), none⟩,
            ⟨(some 53), .mv (.t 60), none⟩] (some [0, 1, 5, 6, 7, 53]))
          (.cond (.t 53)
            (.region [⟨(some 61), .mv (.t 6), none⟩,
              ⟨(some 62), .bin .add (.t 61) (.c (.int .i64 1)), none⟩,
              ⟨(some 6), .mv (.t 62), none⟩] (some [0, 1, 5, 6, 7]))
            (.seq (.region [⟨(some 64), .mv (.t 1), none⟩,
              ⟨(some 65), .mv (.t 7), none⟩,
              ⟨(some 66), .ixA 3 (.t 64) (.t 65), none⟩,
              ⟨(some 67), .fA 1 (.t 66), none⟩,
              ⟨(some 68), .ld none (.t 67), none⟩,
              ⟨(some 69), .lenS (.t 68), none⟩,
              ⟨(some 70), .bin .eql (.t 69) (.c (.int .i64 0)), none⟩,
              ⟨(some 63), .mv (.t 70), none⟩] (some [0, 1, 5, 6, 7, 63]))
            (.cond (.t 63)
              (.region [⟨(some 71), .mv (.t 7), none⟩,
                ⟨(some 72), .bin .add (.t 71) (.c (.int .i64 1)), none⟩,
                ⟨(some 7), .mv (.t 72), none⟩] (some [0, 1, 5, 6, 7]))
              (.seq (.region [⟨(some 19), .mv (.t 0), none⟩,
                ⟨(some 20), .mv (.t 6), none⟩,
                ⟨(some 21), .ixA 3 (.t 19) (.t 20), none⟩,
                ⟨(some 22), .ld (some 3) (.t 21), none⟩,
                ⟨(some 23), .mv (.t 1), none⟩,
                ⟨(some 24), .mv (.t 7), none⟩,
                ⟨(some 25), .ixA 3 (.t 23) (.t 24), none⟩,
                ⟨(some 26), .ld (some 3) (.t 25), none⟩,
                ⟨(some 27), .callF 64 [(.t 22), (.t 26)], none⟩,
                ⟨(some 8), .alloc [.bool false, .nils, .nils], none⟩,
                ⟨none, .st 3 (.t 8) (.t 27), none⟩] (some [0, 1, 5, 6, 7, 8]))
              (.seq (.region [⟨(some 28), .mv (.t 5), none⟩,
                ⟨(some 29), .mv (.t 6), none⟩,
                ⟨(some 30), .mv (.t 7), none⟩,
                ⟨(some 31), .ld (some 3) (.t 8), none⟩,
                ⟨(some 32), .build [.int .i64 0, .int .i64 0, .bool false, .nils, .nils] [(0, 1, (.t 29)), (1, 1, (.t 30)), (2, 3, (.t 31))], none⟩,
                ⟨(some 33), .buildSl 5 1 [.int .i64 0, .int .i64 0, .bool false, .nils, .nils] [(0, (.t 32))], none⟩,
                ⟨(some 34), .app 5 72 (.t 28) (.t 33), none⟩,
                ⟨(some 5), .mv (.t 34), none⟩] (some [0, 1, 5, 6, 7, 8]))
              (.region [⟨(some 35), .mv (.t 0), none⟩,
                ⟨(some 36), .mv (.t 6), none⟩,
                ⟨(some 37), .mv (.t 1), none⟩,
                ⟨(some 38), .mv (.t 7), none⟩,
                ⟨(some 39), .mv (.t 0), none⟩,
                ⟨(some 40), .mv (.t 6), none⟩,
                ⟨(some 41), .ixA 3 (.t 39) (.t 40), none⟩,
                ⟨(some 42), .ld (some 3) (.t 41), none⟩,
                ⟨(some 43), .ld (some 3) (.t 8), none⟩,
                ⟨(some 44), .callF 56 [(.t 42), (.t 43)], none⟩,
                ⟨(some 45), .mv (.t 1), none⟩,
                ⟨(some 46), .mv (.t 7), none⟩,
                ⟨(some 47), .ixA 3 (.t 45) (.t 46), none⟩,
                ⟨(some 48), .ld (some 3) (.t 47), none⟩,
                ⟨(some 49), .ld (some 3) (.t 8), none⟩,
                ⟨(some 50), .callF 56 [(.t 48), (.t 49)], none⟩,
                ⟨(some 51), .ixA 3 (.t 35) (.t 36), none⟩,
                ⟨none, .st 3 (.t 51) (.t 44), none⟩,
                ⟨(some 52), .ixA 3 (.t 37) (.t 38), none⟩,
                ⟨none, .st 3 (.t 52) (.t 50), none⟩] (some [0, 1, 5, 6, 7]))))))))))))))
  (.seq (.region [⟨(some 73), .mv (.t 5), none⟩,
    ⟨(some 4), .mv (.t 73), none⟩] (some [4]))
  .ret)))), [.t 4]⟩
theorem couple_inOrder_ok : cFn Tryz.prog (kps [[0, 1], [0, 1, 5], [0, 1, 5, 6, 7], [0, 1, 5, 6, 7, 18], [0, 1, 5, 6, 7, 8], [0, 1, 5, 6, 7, 8], [0, 1, 5, 6, 7], [0, 1, 5, 6, 7, 53], [0, 1, 5, 6, 7], [0, 1, 5, 6, 7, 63], [0, 1, 5, 6, 7], [4]]) [] 66 = some couple_inOrder_c := by kernel_rfl
abbrev slices_BinarySearchFunc_Part_Part_Value : Nat := 111
def slices_BinarySearchFunc_Part_Part_Value_c : MFn :=
  ⟨49, (.seq (.region [⟨(some 4), .box (.t 1), none⟩,
    ⟨(some 6), .mv (.c (.int .i64 0)), none⟩,
    ⟨(some 7), .mv (.c (.bool false)), none⟩] (some [0, 2, 4]))
  (.seq (.region [⟨(some 12), .mv (.t 0), none⟩,
    ⟨(some 13), .lenS (.t 12), none⟩,
    ⟨(some 8), .mv (.t 13), none⟩] (some [0, 2, 4, 8]))
  (.seq (.region [⟨(some 14), .mv (.t 8), none⟩,
    ⟨(some 9), .mv (.c (.int .i64 0)), none⟩,
    ⟨(some 10), .mv (.t 14), none⟩] (some [0, 2, 4, 8, 9, 10]))
  (.seq (.block 0 (.loop (.seq (.seq (.region [⟨(some 15), .mv (.t 9), none⟩,
        ⟨(some 16), .mv (.t 10), none⟩,
        ⟨(some 17), .bin .lss (.t 15) (.t 16), none⟩] (some [0, 2, 4, 8, 9, 10, 17]))
      (.cond (.t 17)
        .skip
        (.exit 0)))
      (.block 1 (.seq (.region [⟨(some 18), .mv (.t 9), none⟩,
          ⟨(some 19), .mv (.t 10), none⟩,
          ⟨(some 20), .bin .add (.t 18) (.t 19), none⟩,
          ⟨(some 21), .cvt .u64 (.t 20), none⟩,
          ⟨(some 22), .bin .shr (.t 21) (.c (.int .u64 1)), none⟩,
          ⟨(some 23), .cvt .i64 (.t 22), none⟩,
          ⟨(some 11), .mv (.t 23), none⟩] (some [0, 2, 4, 8, 9, 10, 11]))
        (.seq (.region [⟨(some 24), .mv (.t 2), none⟩,
          ⟨(some 25), .mv (.t 0), none⟩,
          ⟨(some 26), .mv (.t 11), none⟩,
          ⟨(some 27), .ixA 6 (.t 25) (.t 26), none⟩,
          ⟨(some 28), .ld (some 6) (.t 27), none⟩,
          ⟨(some 29), .ld (some 3) (.t 4), none⟩,
          ⟨(some 30), .callVF (.t 24) [(.t 28), (.t 29)], none⟩,
          ⟨(some 31), .bin .lss (.t 30) (.c (.int .i64 0)), none⟩] (some [0, 2, 4, 8, 9, 10, 11, 31]))
        (.cond (.t 31)
          (.region [⟨(some 32), .mv (.t 11), none⟩,
            ⟨(some 33), .bin .add (.t 32) (.c (.int .i64 1)), none⟩,
            ⟨(some 9), .mv (.t 33), none⟩] (some [0, 2, 4, 8, 9, 10]))
          (.region [⟨(some 34), .mv (.t 11), none⟩,
            ⟨(some 10), .mv (.t 34), none⟩] (some [0, 2, 4, 8, 9, 10])))))))))
  (.seq (.region [⟨(some 35), .mv (.t 9), none⟩,
    ⟨(some 36), .mv (.t 9), none⟩,
    ⟨(some 37), .mv (.t 8), none⟩,
    ⟨(some 38), .bin .lss (.t 36) (.t 37), none⟩,
    ⟨(some 39), .mv (.t 38), none⟩,
    ⟨(some 40), .mv (.t 2), (some (39, true))⟩,
    ⟨(some 41), .mv (.t 0), (some (39, true))⟩,
    ⟨(some 42), .mv (.t 9), (some (39, true))⟩,
    ⟨(some 43), .ixA 6 (.t 41) (.t 42), (some (39, true))⟩,
    ⟨(some 44), .ld (some 6) (.t 43), (some (39, true))⟩,
    ⟨(some 45), .ld (some 3) (.t 4), (some (39, true))⟩,
    ⟨(some 46), .callVF (.t 40) [(.t 44), (.t 45)], (some (39, true))⟩,
    ⟨(some 47), .bin .eql (.t 46) (.c (.int .i64 0)), (some (39, true))⟩,
    ⟨(some 48), .pick (.t 39) (.t 47) (.c (.bool false)), none⟩,
    ⟨(some 6), .mv (.t 35), none⟩,
    ⟨(some 7), .mv (.t 48), none⟩] (some [6, 7]))
  .ret))))), [.t 6, .t 7]⟩
theorem slices_BinarySearchFunc_Part_Part_Value_ok : cFn Tryz.prog (kps [[0, 2, 4], [0, 2, 4, 8], [0, 2, 4, 8, 9, 10], [0, 2, 4, 8, 9, 10, 17], [0, 2, 4, 8, 9, 10, 11], [0, 2, 4, 8, 9, 10, 11, 31], [0, 2, 4, 8, 9, 10], [0, 2, 4, 8, 9, 10], [6, 7]]) [] 111 = some slices_BinarySearchFunc_Part_Part_Value_c := by kernel_rfl
abbrev couple_place_1 : Nat := 112
def couple_place_1_c : MFn :=
  ⟨9, (.seq (.region [⟨(some 2), .box (.t 0), none⟩,
    ⟨(some 3), .box (.t 1), none⟩,
    ⟨(some 4), .mv (.c (.int .i64 0)), none⟩] (some [2, 3]))
  (.seq (.region [⟨(some 5), .fA 0 (.t 2), none⟩,
    ⟨(some 6), .ld (some 3) (.t 5), none⟩,
    ⟨(some 7), .ld (some 3) (.t 3), none⟩,
    ⟨(some 8), .call 45 [(.t 6), (.t 7)], none⟩,
    ⟨(some 4), .mv (.t 8), none⟩] (some [4]))
  .ret)), [.t 4]⟩
theorem couple_place_1_ok : cFn Tryz.prog (kps [[2, 3], [4]]) [] 112 = some couple_place_1_c := by kernel_rfl
abbrev slices_SortStableFunc_Pair_Pair : Nat := 114
def slices_SortStableFunc_Pair_Pair_c : MFn :=
  ⟨9, (.region [⟨(some 4), .mv (.t 0), none⟩,
    ⟨(some 5), .mv (.t 0), none⟩,
    ⟨(some 6), .lenS (.t 5), none⟩,
    ⟨(some 7), .mv (.t 1), none⟩,
    ⟨(some 8), .call 136 [(.t 4), (.t 6), (.t 7)], none⟩] (some [])), []⟩
theorem slices_SortStableFunc_Pair_Pair_ok : cFn Tryz.prog (kps [[]]) [] 114 = some slices_SortStableFunc_Pair_Pair_c := by kernel_rfl
abbrev slices_stableCmpFunc_Pair : Nat := 136
def slices_stableCmpFunc_Pair_c : MFn :=
  ⟨63, (.seq (.region [⟨(some 6), .mv (.c (.int .i64 20)), none⟩] (some [0, 1, 2, 6]))
  (.seq (.region [⟨(some 10), .mv (.t 6), none⟩,
    ⟨(some 7), .mv (.c (.int .i64 0)), none⟩,
    ⟨(some 8), .mv (.t 10), none⟩] (some [0, 1, 2, 6, 7, 8]))
  (.seq (.block 0 (.loop (.seq (.seq (.region [⟨(some 11), .mv (.t 8), none⟩,
        ⟨(some 12), .mv (.t 1), none⟩,
        ⟨(some 13), .bin .leq (.t 11) (.t 12), none⟩] (some [0, 1, 2, 6, 7, 8, 13]))
      (.cond (.t 13)
        .skip
        (.exit 0)))
      (.block 1 (.seq (.region [⟨(some 14), .mv (.t 0), none⟩,
          ⟨(some 15), .mv (.t 7), none⟩,
          ⟨(some 16), .mv (.t 8), none⟩,
          ⟨(some 17), .mv (.t 2), none⟩,
          ⟨(some 18), .call 148 [(.t 14), (.t 15), (.t 16), (.t 17)], none⟩] (some [0, 1, 2, 6, 8]))
        (.seq (.region [⟨(some 19), .mv (.t 8), none⟩,
          ⟨(some 7), .mv (.t 19), none⟩] (some [0, 1, 2, 6, 7, 8]))
        (.region [⟨(some 20), .mv (.t 8), none⟩,
          ⟨(some 21), .mv (.t 6), none⟩,
          ⟨(some 22), .bin .add (.t 20) (.t 21), none⟩,
          ⟨(some 8), .mv (.t 22), none⟩] (some [0, 1, 2, 6, 7, 8]))))))))
  (.seq (.region [⟨(some 23), .mv (.t 0), none⟩,
    ⟨(some 24), .mv (.t 7), none⟩,
    ⟨(some 25), .mv (.t 1), none⟩,
    ⟨(some 26), .mv (.t 2), none⟩,
    ⟨(some 27), .call 148 [(.t 23), (.t 24), (.t 25), (.t 26)], none⟩] (some [0, 1, 2, 6]))
  (.block 2 (.loop (.seq (.seq (.region [⟨(some 28), .mv (.t 6), none⟩,
        ⟨(some 29), .mv (.t 1), none⟩,
        ⟨(some 30), .bin .lss (.t 28) (.t 29), none⟩] (some [0, 1, 2, 6, 30]))
      (.cond (.t 30)
        .skip
        (.exit 2)))
      (.block 3 (.seq (.region [⟨(some 31), .mv (.t 6), none⟩,
          ⟨(some 32), .bin .mul (.c (.int .i64 2)) (.t 31), none⟩,
          ⟨(some 7), .mv (.c (.int .i64 0)), none⟩,
          ⟨(some 8), .mv (.t 32), none⟩] (some [0, 1, 2, 6, 7, 8]))
        (.seq (.block 4 (.loop (.seq (.seq (.region [⟨(some 33), .mv (.t 8), none⟩,
              ⟨(some 34), .mv (.t 1), none⟩,
              ⟨(some 35), .bin .leq (.t 33) (.t 34), none⟩] (some [0, 1, 2, 6, 7, 8, 35]))
            (.cond (.t 35)
              .skip
              (.exit 4)))
            (.block 5 (.seq (.region [⟨(some 36), .mv (.t 0), none⟩,
                ⟨(some 37), .mv (.t 7), none⟩,
                ⟨(some 38), .mv (.t 7), none⟩,
                ⟨(some 39), .mv (.t 6), none⟩,
                ⟨(some 40), .bin .add (.t 38) (.t 39), none⟩,
                ⟨(some 41), .mv (.t 8), none⟩,
                ⟨(some 42), .mv (.t 2), none⟩,
                ⟨(some 43), .call 149 [(.t 36), (.t 37), (.t 40), (.t 41), (.t 42)], none⟩] (some [0, 1, 2, 6, 8]))
              (.seq (.region [⟨(some 44), .mv (.t 8), none⟩,
                ⟨(some 7), .mv (.t 44), none⟩] (some [0, 1, 2, 6, 7, 8]))
              (.region [⟨(some 45), .mv (.t 8), none⟩,
                ⟨(some 46), .mv (.t 6), none⟩,
                ⟨(some 47), .bin .mul (.c (.int .i64 2)) (.t 46), none⟩,
                ⟨(some 48), .bin .add (.t 45) (.t 47), none⟩,
                ⟨(some 8), .mv (.t 48), none⟩] (some [0, 1, 2, 6, 7, 8]))))))))
        (.seq (.seq (.region [⟨(some 49), .mv (.t 7), none⟩,
          ⟨(some 50), .mv (.t 6), none⟩,
          ⟨(some 51), .bin .add (.t 49) (.t 50), none⟩,
          ⟨(some 9), .mv (.t 51), none⟩] (some [0, 1, 2, 6, 7, 9]))
        (.seq (.region [⟨(some 52), .mv (.t 9), none⟩,
          ⟨(some 53), .mv (.t 1), none⟩,
          ⟨(some 54), .bin .lss (.t 52) (.t 53), none⟩] (some [0, 1, 2, 6, 7, 9, 54]))
        (.cond (.t 54)
          (.region [⟨(some 55), .mv (.t 0), none⟩,
            ⟨(some 56), .mv (.t 7), none⟩,
            ⟨(some 57), .mv (.t 9), none⟩,
            ⟨(some 58), .mv (.t 1), none⟩,
            ⟨(some 59), .mv (.t 2), none⟩,
            ⟨(some 60), .call 149 [(.t 55), (.t 56), (.t 57), (.t 58), (.t 59)], none⟩] (some [0, 1, 2, 6]))
          .skip)))
        (.region [⟨(some 61), .mv (.t 6), none⟩,
          ⟨(some 62), .bin .mul (.t 61) (.c (.int .i64 2)), none⟩,
          ⟨(some 6), .mv (.t 62), none⟩] (some [0, 1, 2, 6]))))))))))))), []⟩
theorem slices_stableCmpFunc_Pair_ok : cFn Tryz.prog (kps [[0, 1, 2, 6], [0, 1, 2, 6, 7, 8], [0, 1, 2, 6, 7, 8, 13], [0, 1, 2, 6, 8], [0, 1, 2, 6, 7, 8], [0, 1, 2, 6, 7, 8], [0, 1, 2, 6], [0, 1, 2, 6, 30], [0, 1, 2, 6, 7, 8], [0, 1, 2, 6, 7, 8, 35], [0, 1, 2, 6, 8], [0, 1, 2, 6, 7, 8], [0, 1, 2, 6, 7, 8], [0, 1, 2, 6, 7, 9], [0, 1, 2, 6, 7, 9, 54], [0, 1, 2, 6], [0, 1, 2, 6]]) [] 136 = some slices_stableCmpFunc_Pair_c := by kernel_rfl
abbrev slices_EqualFunc_Type_Value_Type_Value : Nat := 140
def slices_EqualFunc_Type_Value_Type_Value_c : MFn :=
  ⟨32, (.seq (.region [⟨(some 6), .mv (.c (.bool false)), none⟩] (some [0, 1, 2]))
  (.seq (.seq (.region [⟨(some 10), .mv (.t 0), none⟩,
    ⟨(some 11), .lenS (.t 10), none⟩,
    ⟨(some 12), .mv (.t 1), none⟩,
    ⟨(some 13), .lenS (.t 12), none⟩,
    ⟨(some 14), .bin .neq (.t 11) (.t 13), none⟩] (some [0, 1, 2, 14]))
  (.cond (.t 14)
    (.seq (.region [⟨(some 6), .mv (.c (.bool false)), none⟩] (some [6]))
    .ret)
    .skip))
  (.seq (.seq (.region [⟨(some 15), .mv (.t 0), none⟩,
    ⟨(some 16), .lenS (.t 15), none⟩,
    ⟨(some 17), .mv (.c (.int .i64 0)), none⟩] (some [1, 2, 15, 16, 17]))
  (.block 0 (.loop (.seq (.region [⟨(some 18), .bin .lss (.t 17) (.t 16), none⟩] (some [1, 2, 15, 16, 17, 18]))
      (.seq (.cond (.t 18)
        .skip
        (.exit 0))
      (.seq (.block 1 (.seq (.region [⟨(some 19), .mv (.t 17), none⟩,
          ⟨(some 20), .ixA 2 (.t 15) (.t 17), none⟩,
          ⟨(some 21), .ld (some 2) (.t 20), none⟩,
          ⟨(some 8), .alloc [.int .i64 0, .nils], none⟩,
          ⟨(some 7), .mv (.t 19), none⟩,
          ⟨none, .st 2 (.t 8) (.t 21), none⟩] (some [1, 2, 7, 8, 15, 16, 17]))
        (.seq (.region [⟨(some 22), .mv (.t 1), none⟩,
          ⟨(some 23), .mv (.t 7), none⟩,
          ⟨(some 24), .ixA 3 (.t 22) (.t 23), none⟩,
          ⟨(some 25), .ld (some 3) (.t 24), none⟩,
          ⟨(some 9), .alloc [.int .i64 0, .int .i64 0, .nils], none⟩,
          ⟨none, .st 3 (.t 9) (.t 25), none⟩] (some [1, 2, 8, 9, 15, 16, 17]))
        (.seq (.region [⟨(some 26), .mv (.t 2), none⟩,
          ⟨(some 27), .ld (some 2) (.t 8), none⟩,
          ⟨(some 28), .ld (some 3) (.t 9), none⟩,
          ⟨(some 29), .callV (.t 26) [(.t 27), (.t 28)], none⟩,
          ⟨(some 30), .un .not (.t 29), none⟩] (some [1, 2, 15, 16, 17, 30]))
        (.cond (.t 30)
          (.seq (.region [⟨(some 6), .mv (.c (.bool false)), none⟩] (some [6]))
          .ret)
          .skip)))))
      (.region [⟨(some 31), .bin .add (.t 17) (.c (.int .i64 1)), none⟩,
        ⟨(some 17), .mv (.t 31), none⟩] (some [1, 2, 15, 16, 17]))))))))
  (.seq (.region [⟨(some 6), .mv (.c (.bool true)), none⟩] (some [6]))
  .ret)))), [.t 6]⟩
theorem slices_EqualFunc_Type_Value_Type_Value_ok : cFn Tryz.prog (kps [[0, 1, 2], [0, 1, 2, 14], [6], [1, 2, 15, 16, 17], [1, 2, 15, 16, 17, 18], [1, 2, 7, 8, 15, 16, 17], [1, 2, 8, 9, 15, 16, 17], [1, 2, 15, 16, 17, 30], [6], [1, 2, 15, 16, 17], [6]]) [] 140 = some slices_EqualFunc_Type_Value_Type_Value_c := by kernel_rfl
abbrev slices_ContainsFunc_Value_Value : Nat := 141
def slices_ContainsFunc_Value_Value_c : MFn :=
  ⟨9, (.seq (.region [⟨(some 4), .mv (.c (.bool false)), none⟩] (some [0, 1]))
  (.seq (.region [⟨(some 5), .mv (.t 0), none⟩,
    ⟨(some 6), .mv (.t 1), none⟩,
    ⟨(some 7), .call 150 [(.t 5), (.t 6)], none⟩,
    ⟨(some 8), .bin .geq (.t 7) (.c (.int .i64 0)), none⟩,
    ⟨(some 4), .mv (.t 8), none⟩] (some [4]))
  .ret)), [.t 4]⟩
theorem slices_ContainsFunc_Value_Value_ok : cFn Tryz.prog (kps [[0, 1], [4]]) [] 141 = some slices_ContainsFunc_Value_Value_c := by kernel_rfl
abbrev value_has_1 : Nat := 142
def value_has_1_c : MFn :=
  ⟨11, (.seq (.region [⟨(some 2), .box (.t 0), none⟩,
    ⟨(some 3), .mv (.c (.bool false)), none⟩] (some [1, 2]))
  (.seq (.region [⟨(some 4), .fA 1 (.t 1), none⟩,
    ⟨(some 5), .ld none (.t 4), none⟩,
    ⟨(some 6), .ixA 2 (.t 5) (.c (.int .i64 0)), none⟩,
    ⟨(some 7), .ld (some 2) (.t 6), none⟩,
    ⟨(some 8), .ld (some 3) (.t 2), none⟩,
    ⟨(some 9), .callF 124 [(.t 7), (.t 8)], none⟩,
    ⟨(some 10), .un .not (.t 9), none⟩,
    ⟨(some 3), .mv (.t 10), none⟩] (some [3]))
  .ret)), [.t 3]⟩
theorem value_has_1_ok : cFn Tryz.prog (kps [[1, 2], [3]]) [] 142 = some value_has_1_c := by kernel_rfl
abbrev slices_insertionSortCmpFunc_Pair : Nat := 148
def slices_insertionSortCmpFunc_Pair_c : MFn :=
  ⟨53, (.seq (.region [⟨(some 10), .mv (.t 1), none⟩,
    ⟨(some 11), .bin .add (.t 10) (.c (.int .i64 1)), none⟩,
    ⟨(some 8), .mv (.t 11), none⟩] (some [0, 1, 2, 3, 8]))
  (.block 0 (.loop (.seq (.seq (.region [⟨(some 12), .mv (.t 8), none⟩,
        ⟨(some 13), .mv (.t 2), none⟩,
        ⟨(some 14), .bin .lss (.t 12) (.t 13), none⟩] (some [0, 1, 2, 3, 8, 14]))
      (.cond (.t 14)
        .skip
        (.exit 0)))
      (.seq (.block 1 (.seq (.region [⟨(some 17), .mv (.t 8), none⟩,
          ⟨(some 9), .mv (.t 17), none⟩] (some [0, 1, 2, 3, 8, 9]))
        (.block 2 (.loop (.seq (.seq (.region [⟨(some 18), .mv (.t 9), none⟩,
              ⟨(some 19), .mv (.t 1), none⟩,
              ⟨(some 20), .bin .gtr (.t 18) (.t 19), none⟩,
              ⟨(some 21), .mv (.t 20), none⟩,
              ⟨(some 22), .mv (.t 3), (some (21, true))⟩,
              ⟨(some 23), .mv (.t 0), (some (21, true))⟩,
              ⟨(some 24), .mv (.t 9), (some (21, true))⟩,
              ⟨(some 25), .ixA 5 (.t 23) (.t 24), (some (21, true))⟩,
              ⟨(some 26), .ld (some 5) (.t 25), (some (21, true))⟩,
              ⟨(some 27), .mv (.t 0), (some (21, true))⟩,
              ⟨(some 28), .mv (.t 9), (some (21, true))⟩,
              ⟨(some 29), .bin .sub (.t 28) (.c (.int .i64 1)), (some (21, true))⟩,
              ⟨(some 30), .ixA 5 (.t 27) (.t 29), (some (21, true))⟩,
              ⟨(some 31), .ld (some 5) (.t 30), (some (21, true))⟩,
              ⟨(some 32), .callVF (.t 22) [(.t 26), (.t 31)], (some (21, true))⟩,
              ⟨(some 33), .bin .lss (.t 32) (.c (.int .i64 0)), (some (21, true))⟩,
              ⟨(some 34), .pick (.t 21) (.t 33) (.c (.bool false)), none⟩] (some [0, 1, 2, 3, 8, 9, 34]))
            (.cond (.t 34)
              .skip
              (.exit 2)))
            (.seq (.block 3 (.region [⟨(some 37), .mv (.t 0), none⟩,
                ⟨(some 38), .mv (.t 9), none⟩,
                ⟨(some 39), .mv (.t 0), none⟩,
                ⟨(some 40), .mv (.t 9), none⟩,
                ⟨(some 41), .bin .sub (.t 40) (.c (.int .i64 1)), none⟩,
                ⟨(some 42), .mv (.t 0), none⟩,
                ⟨(some 43), .mv (.t 9), none⟩,
                ⟨(some 44), .bin .sub (.t 43) (.c (.int .i64 1)), none⟩,
                ⟨(some 45), .ixA 5 (.t 42) (.t 44), none⟩,
                ⟨(some 46), .ld (some 5) (.t 45), none⟩,
                ⟨(some 47), .mv (.t 0), none⟩,
                ⟨(some 48), .mv (.t 9), none⟩,
                ⟨(some 49), .ixA 5 (.t 47) (.t 48), none⟩,
                ⟨(some 50), .ld (some 5) (.t 49), none⟩,
                ⟨(some 51), .ixA 5 (.t 37) (.t 38), none⟩,
                ⟨none, .st 5 (.t 51) (.t 46), none⟩,
                ⟨(some 52), .ixA 5 (.t 39) (.t 41), none⟩,
                ⟨none, .st 5 (.t 52) (.t 50), none⟩] (some [0, 1, 2, 3, 8, 9])))
            (.region [⟨(some 35), .mv (.t 9), none⟩,
              ⟨(some 36), .bin .sub (.t 35) (.c (.int .i64 1)), none⟩,
              ⟨(some 9), .mv (.t 36), none⟩] (some [0, 1, 2, 3, 8, 9]))))))))
      (.region [⟨(some 15), .mv (.t 8), none⟩,
        ⟨(some 16), .bin .add (.t 15) (.c (.int .i64 1)), none⟩,
        ⟨(some 8), .mv (.t 16), none⟩] (some [0, 1, 2, 3, 8]))))))), []⟩
theorem slices_insertionSortCmpFunc_Pair_ok : cFn Tryz.prog (kps [[0, 1, 2, 3, 8], [0, 1, 2, 3, 8, 14], [0, 1, 2, 3, 8], [0, 1, 2, 3, 8, 9], [0, 1, 2, 3, 8, 9, 34], [0, 1, 2, 3, 8, 9], [0, 1, 2, 3, 8, 9]]) [] 148 = some slices_insertionSortCmpFunc_Pair_c := by kernel_rfl
abbrev slices_symMergeCmpFunc_Pair : Nat := 149
def slices_symMergeCmpFunc_Pair_c : MFn :=
  ⟨220, (.seq (.seq (.region [⟨(some 25), .mv (.t 2), none⟩,
    ⟨(some 26), .mv (.t 1), none⟩,
    ⟨(some 27), .bin .sub (.t 25) (.t 26), none⟩,
    ⟨(some 28), .bin .eql (.t 27) (.c (.int .i64 1)), none⟩] (some [0, 1, 2, 3, 4, 28]))
  (.cond (.t 28)
    (.seq (.region [⟨(some 29), .mv (.t 2), none⟩,
      ⟨(some 10), .mv (.t 29), none⟩] (some [0, 1, 3, 4, 10]))
    (.seq (.region [⟨(some 30), .mv (.t 3), none⟩,
      ⟨(some 11), .mv (.t 30), none⟩] (some [0, 1, 4, 10, 11]))
    (.seq (.block 0 (.loop (.seq (.seq (.region [⟨(some 31), .mv (.t 10), none⟩,
          ⟨(some 32), .mv (.t 11), none⟩,
          ⟨(some 33), .bin .lss (.t 31) (.t 32), none⟩] (some [0, 1, 4, 10, 11, 33]))
        (.cond (.t 33)
          .skip
          (.exit 0)))
        (.block 1 (.seq (.region [⟨(some 34), .mv (.t 10), none⟩,
            ⟨(some 35), .mv (.t 11), none⟩,
            ⟨(some 36), .bin .add (.t 34) (.t 35), none⟩,
            ⟨(some 37), .cvt .u64 (.t 36), none⟩,
            ⟨(some 38), .bin .shr (.t 37) (.c (.int .u64 1)), none⟩,
            ⟨(some 39), .cvt .i64 (.t 38), none⟩,
            ⟨(some 12), .mv (.t 39), none⟩] (some [0, 1, 4, 10, 11, 12]))
          (.seq (.region [⟨(some 40), .mv (.t 4), none⟩,
            ⟨(some 41), .mv (.t 0), none⟩,
            ⟨(some 42), .mv (.t 12), none⟩,
            ⟨(some 43), .ixA 5 (.t 41) (.t 42), none⟩,
            ⟨(some 44), .ld (some 5) (.t 43), none⟩,
            ⟨(some 45), .mv (.t 0), none⟩,
            ⟨(some 46), .mv (.t 1), none⟩,
            ⟨(some 47), .ixA 5 (.t 45) (.t 46), none⟩,
            ⟨(some 48), .ld (some 5) (.t 47), none⟩,
            ⟨(some 49), .callVF (.t 40) [(.t 44), (.t 48)], none⟩,
            ⟨(some 50), .bin .lss (.t 49) (.c (.int .i64 0)), none⟩] (some [0, 1, 4, 10, 11, 12, 50]))
          (.cond (.t 50)
            (.region [⟨(some 51), .mv (.t 12), none⟩,
              ⟨(some 52), .bin .add (.t 51) (.c (.int .i64 1)), none⟩,
              ⟨(some 10), .mv (.t 52), none⟩] (some [0, 1, 4, 10, 11]))
            (.region [⟨(some 53), .mv (.t 12), none⟩,
              ⟨(some 11), .mv (.t 53), none⟩] (some [0, 1, 4, 10, 11])))))))))
    (.seq (.seq (.region [⟨(some 54), .mv (.t 1), none⟩,
      ⟨(some 13), .mv (.t 54), none⟩] (some [0, 10, 13]))
    (.block 2 (.loop (.seq (.seq (.region [⟨(some 55), .mv (.t 13), none⟩,
          ⟨(some 56), .mv (.t 10), none⟩,
          ⟨(some 57), .bin .sub (.t 56) (.c (.int .i64 1)), none⟩,
          ⟨(some 58), .bin .lss (.t 55) (.t 57), none⟩] (some [0, 10, 13, 58]))
        (.cond (.t 58)
          .skip
          (.exit 2)))
        (.seq (.block 3 (.region [⟨(some 61), .mv (.t 0), none⟩,
            ⟨(some 62), .mv (.t 13), none⟩,
            ⟨(some 63), .mv (.t 0), none⟩,
            ⟨(some 64), .mv (.t 13), none⟩,
            ⟨(some 65), .bin .add (.t 64) (.c (.int .i64 1)), none⟩,
            ⟨(some 66), .mv (.t 0), none⟩,
            ⟨(some 67), .mv (.t 13), none⟩,
            ⟨(some 68), .bin .add (.t 67) (.c (.int .i64 1)), none⟩,
            ⟨(some 69), .ixA 5 (.t 66) (.t 68), none⟩,
            ⟨(some 70), .ld (some 5) (.t 69), none⟩,
            ⟨(some 71), .mv (.t 0), none⟩,
            ⟨(some 72), .mv (.t 13), none⟩,
            ⟨(some 73), .ixA 5 (.t 71) (.t 72), none⟩,
            ⟨(some 74), .ld (some 5) (.t 73), none⟩,
            ⟨(some 75), .ixA 5 (.t 61) (.t 62), none⟩,
            ⟨none, .st 5 (.t 75) (.t 70), none⟩,
            ⟨(some 76), .ixA 5 (.t 63) (.t 65), none⟩,
            ⟨none, .st 5 (.t 76) (.t 74), none⟩] (some [0, 10, 13])))
        (.region [⟨(some 59), .mv (.t 13), none⟩,
          ⟨(some 60), .bin .add (.t 59) (.c (.int .i64 1)), none⟩,
          ⟨(some 13), .mv (.t 60), none⟩] (some [0, 10, 13])))))))
    .ret))))
    .skip))
  (.seq (.seq (.region [⟨(some 77), .mv (.t 3), none⟩,
    ⟨(some 78), .mv (.t 2), none⟩,
    ⟨(some 79), .bin .sub (.t 77) (.t 78), none⟩,
    ⟨(some 80), .bin .eql (.t 79) (.c (.int .i64 1)), none⟩] (some [0, 1, 2, 3, 4, 80]))
  (.cond (.t 80)
    (.seq (.region [⟨(some 81), .mv (.t 1), none⟩,
      ⟨(some 14), .mv (.t 81), none⟩] (some [0, 2, 4, 14]))
    (.seq (.region [⟨(some 82), .mv (.t 2), none⟩,
      ⟨(some 15), .mv (.t 82), none⟩] (some [0, 2, 4, 14, 15]))
    (.seq (.block 4 (.loop (.seq (.seq (.region [⟨(some 83), .mv (.t 14), none⟩,
          ⟨(some 84), .mv (.t 15), none⟩,
          ⟨(some 85), .bin .lss (.t 83) (.t 84), none⟩] (some [0, 2, 4, 14, 15, 85]))
        (.cond (.t 85)
          .skip
          (.exit 4)))
        (.block 5 (.seq (.region [⟨(some 86), .mv (.t 14), none⟩,
            ⟨(some 87), .mv (.t 15), none⟩,
            ⟨(some 88), .bin .add (.t 86) (.t 87), none⟩,
            ⟨(some 89), .cvt .u64 (.t 88), none⟩,
            ⟨(some 90), .bin .shr (.t 89) (.c (.int .u64 1)), none⟩,
            ⟨(some 91), .cvt .i64 (.t 90), none⟩,
            ⟨(some 16), .mv (.t 91), none⟩] (some [0, 2, 4, 14, 15, 16]))
          (.seq (.region [⟨(some 92), .mv (.t 4), none⟩,
            ⟨(some 93), .mv (.t 0), none⟩,
            ⟨(some 94), .mv (.t 2), none⟩,
            ⟨(some 95), .ixA 5 (.t 93) (.t 94), none⟩,
            ⟨(some 96), .ld (some 5) (.t 95), none⟩,
            ⟨(some 97), .mv (.t 0), none⟩,
            ⟨(some 98), .mv (.t 16), none⟩,
            ⟨(some 99), .ixA 5 (.t 97) (.t 98), none⟩,
            ⟨(some 100), .ld (some 5) (.t 99), none⟩,
            ⟨(some 101), .callVF (.t 92) [(.t 96), (.t 100)], none⟩,
            ⟨(some 102), .bin .lss (.t 101) (.c (.int .i64 0)), none⟩,
            ⟨(some 103), .un .not (.t 102), none⟩] (some [0, 2, 4, 14, 15, 16, 103]))
          (.cond (.t 103)
            (.region [⟨(some 104), .mv (.t 16), none⟩,
              ⟨(some 105), .bin .add (.t 104) (.c (.int .i64 1)), none⟩,
              ⟨(some 14), .mv (.t 105), none⟩] (some [0, 2, 4, 14, 15]))
            (.region [⟨(some 106), .mv (.t 16), none⟩,
              ⟨(some 15), .mv (.t 106), none⟩] (some [0, 2, 4, 14, 15])))))))))
    (.seq (.seq (.region [⟨(some 107), .mv (.t 2), none⟩,
      ⟨(some 17), .mv (.t 107), none⟩] (some [0, 14, 17]))
    (.block 6 (.loop (.seq (.seq (.region [⟨(some 108), .mv (.t 17), none⟩,
          ⟨(some 109), .mv (.t 14), none⟩,
          ⟨(some 110), .bin .gtr (.t 108) (.t 109), none⟩] (some [0, 14, 17, 110]))
        (.cond (.t 110)
          .skip
          (.exit 6)))
        (.seq (.block 7 (.region [⟨(some 113), .mv (.t 0), none⟩,
            ⟨(some 114), .mv (.t 17), none⟩,
            ⟨(some 115), .mv (.t 0), none⟩,
            ⟨(some 116), .mv (.t 17), none⟩,
            ⟨(some 117), .bin .sub (.t 116) (.c (.int .i64 1)), none⟩,
            ⟨(some 118), .mv (.t 0), none⟩,
            ⟨(some 119), .mv (.t 17), none⟩,
            ⟨(some 120), .bin .sub (.t 119) (.c (.int .i64 1)), none⟩,
            ⟨(some 121), .ixA 5 (.t 118) (.t 120), none⟩,
            ⟨(some 122), .ld (some 5) (.t 121), none⟩,
            ⟨(some 123), .mv (.t 0), none⟩,
            ⟨(some 124), .mv (.t 17), none⟩,
            ⟨(some 125), .ixA 5 (.t 123) (.t 124), none⟩,
            ⟨(some 126), .ld (some 5) (.t 125), none⟩,
            ⟨(some 127), .ixA 5 (.t 113) (.t 114), none⟩,
            ⟨none, .st 5 (.t 127) (.t 122), none⟩,
            ⟨(some 128), .ixA 5 (.t 115) (.t 117), none⟩,
            ⟨none, .st 5 (.t 128) (.t 126), none⟩] (some [0, 14, 17])))
        (.region [⟨(some 111), .mv (.t 17), none⟩,
          ⟨(some 112), .bin .sub (.t 111) (.c (.int .i64 1)), none⟩,
          ⟨(some 17), .mv (.t 112), none⟩] (some [0, 14, 17])))))))
    .ret))))
    .skip))
  (.seq (.region [⟨(some 129), .mv (.t 1), none⟩,
    ⟨(some 130), .mv (.t 3), none⟩,
    ⟨(some 131), .bin .add (.t 129) (.t 130), none⟩,
    ⟨(some 132), .cvt .u64 (.t 131), none⟩,
    ⟨(some 133), .bin .shr (.t 132) (.c (.int .u64 1)), none⟩,
    ⟨(some 134), .cvt .i64 (.t 133), none⟩,
    ⟨(some 18), .mv (.t 134), none⟩] (some [0, 1, 2, 3, 4, 18]))
  (.seq (.region [⟨(some 135), .mv (.t 18), none⟩,
    ⟨(some 136), .mv (.t 2), none⟩,
    ⟨(some 137), .bin .add (.t 135) (.t 136), none⟩,
    ⟨(some 19), .mv (.t 137), none⟩] (some [0, 1, 2, 3, 4, 18, 19]))
  (.seq (.region [⟨(some 20), .mv (.c (.int .i64 0)), none⟩,
    ⟨(some 21), .mv (.c (.int .i64 0)), none⟩] (some [0, 1, 2, 3, 4, 18, 19]))
  (.seq (.seq (.region [⟨(some 138), .mv (.t 2), none⟩,
    ⟨(some 139), .mv (.t 18), none⟩,
    ⟨(some 140), .bin .gtr (.t 138) (.t 139), none⟩] (some [0, 1, 2, 3, 4, 18, 19, 140]))
  (.cond (.t 140)
    (.seq (.region [⟨(some 141), .mv (.t 19), none⟩,
      ⟨(some 142), .mv (.t 3), none⟩,
      ⟨(some 143), .bin .sub (.t 141) (.t 142), none⟩,
      ⟨(some 20), .mv (.t 143), none⟩] (some [0, 1, 2, 3, 4, 18, 19, 20]))
    (.region [⟨(some 144), .mv (.t 18), none⟩,
      ⟨(some 21), .mv (.t 144), none⟩] (some [0, 1, 2, 3, 4, 18, 19, 20, 21])))
    (.seq (.region [⟨(some 145), .mv (.t 1), none⟩,
      ⟨(some 20), .mv (.t 145), none⟩] (some [0, 1, 2, 3, 4, 18, 19, 20]))
    (.region [⟨(some 146), .mv (.t 2), none⟩,
      ⟨(some 21), .mv (.t 146), none⟩] (some [0, 1, 2, 3, 4, 18, 19, 20, 21])))))
  (.seq (.region [⟨(some 147), .mv (.t 19), none⟩,
    ⟨(some 148), .bin .sub (.t 147) (.c (.int .i64 1)), none⟩,
    ⟨(some 22), .mv (.t 148), none⟩] (some [0, 1, 2, 3, 4, 18, 19, 20, 21, 22]))
  (.seq (.block 8 (.loop (.seq (.seq (.region [⟨(some 149), .mv (.t 20), none⟩,
        ⟨(some 150), .mv (.t 21), none⟩,
        ⟨(some 151), .bin .lss (.t 149) (.t 150), none⟩] (some [0, 1, 2, 3, 4, 18, 19, 20, 21, 22, 151]))
      (.cond (.t 151)
        .skip
        (.exit 8)))
      (.block 9 (.seq (.region [⟨(some 152), .mv (.t 20), none⟩,
          ⟨(some 153), .mv (.t 21), none⟩,
          ⟨(some 154), .bin .add (.t 152) (.t 153), none⟩,
          ⟨(some 155), .cvt .u64 (.t 154), none⟩,
          ⟨(some 156), .bin .shr (.t 155) (.c (.int .u64 1)), none⟩,
          ⟨(some 157), .cvt .i64 (.t 156), none⟩,
          ⟨(some 23), .mv (.t 157), none⟩] (some [0, 1, 2, 3, 4, 18, 19, 20, 21, 22, 23]))
        (.seq (.region [⟨(some 158), .mv (.t 4), none⟩,
          ⟨(some 159), .mv (.t 0), none⟩,
          ⟨(some 160), .mv (.t 22), none⟩,
          ⟨(some 161), .mv (.t 23), none⟩,
          ⟨(some 162), .bin .sub (.t 160) (.t 161), none⟩,
          ⟨(some 163), .ixA 5 (.t 159) (.t 162), none⟩,
          ⟨(some 164), .ld (some 5) (.t 163), none⟩,
          ⟨(some 165), .mv (.t 0), none⟩,
          ⟨(some 166), .mv (.t 23), none⟩,
          ⟨(some 167), .ixA 5 (.t 165) (.t 166), none⟩,
          ⟨(some 168), .ld (some 5) (.t 167), none⟩,
          ⟨(some 169), .callVF (.t 158) [(.t 164), (.t 168)], none⟩,
          ⟨(some 170), .bin .lss (.t 169) (.c (.int .i64 0)), none⟩,
          ⟨(some 171), .un .not (.t 170), none⟩] (some [0, 1, 2, 3, 4, 18, 19, 20, 21, 22, 23, 171]))
        (.cond (.t 171)
          (.region [⟨(some 172), .mv (.t 23), none⟩,
            ⟨(some 173), .bin .add (.t 172) (.c (.int .i64 1)), none⟩,
            ⟨(some 20), .mv (.t 173), none⟩] (some [0, 1, 2, 3, 4, 18, 19, 20, 21, 22]))
          (.region [⟨(some 174), .mv (.t 23), none⟩,
            ⟨(some 21), .mv (.t 174), none⟩] (some [0, 1, 2, 3, 4, 18, 19, 20, 21, 22])))))))))
  (.seq (.region [⟨(some 175), .mv (.t 19), none⟩,
    ⟨(some 176), .mv (.t 20), none⟩,
    ⟨(some 177), .bin .sub (.t 175) (.t 176), none⟩,
    ⟨(some 24), .mv (.t 177), none⟩] (some [0, 1, 2, 3, 4, 18, 20, 24]))
  (.seq (.seq (.region [⟨(some 178), .mv (.t 20), none⟩,
    ⟨(some 179), .mv (.t 2), none⟩,
    ⟨(some 180), .bin .lss (.t 178) (.t 179), none⟩,
    ⟨(some 181), .mv (.t 180), none⟩,
    ⟨(some 182), .mv (.t 2), (some (181, true))⟩,
    ⟨(some 183), .mv (.t 24), (some (181, true))⟩,
    ⟨(some 184), .bin .lss (.t 182) (.t 183), (some (181, true))⟩,
    ⟨(some 185), .pick (.t 181) (.t 184) (.c (.bool false)), none⟩] (some [0, 1, 2, 3, 4, 18, 20, 24, 185]))
  (.cond (.t 185)
    (.region [⟨(some 186), .mv (.t 0), none⟩,
      ⟨(some 187), .mv (.t 20), none⟩,
      ⟨(some 188), .mv (.t 2), none⟩,
      ⟨(some 189), .mv (.t 24), none⟩,
      ⟨(some 190), .mv (.t 4), none⟩,
      ⟨(some 191), .call 153 [(.t 186), (.t 187), (.t 188), (.t 189), (.t 190)], none⟩] (some [0, 1, 3, 4, 18, 20, 24]))
    .skip))
  (.seq (.seq (.region [⟨(some 192), .mv (.t 1), none⟩,
    ⟨(some 193), .mv (.t 20), none⟩,
    ⟨(some 194), .bin .lss (.t 192) (.t 193), none⟩,
    ⟨(some 195), .mv (.t 194), none⟩,
    ⟨(some 196), .mv (.t 20), (some (195, true))⟩,
    ⟨(some 197), .mv (.t 18), (some (195, true))⟩,
    ⟨(some 198), .bin .lss (.t 196) (.t 197), (some (195, true))⟩,
    ⟨(some 199), .pick (.t 195) (.t 198) (.c (.bool false)), none⟩] (some [0, 1, 3, 4, 18, 20, 24, 199]))
  (.cond (.t 199)
    (.region [⟨(some 200), .mv (.t 0), none⟩,
      ⟨(some 201), .mv (.t 1), none⟩,
      ⟨(some 202), .mv (.t 20), none⟩,
      ⟨(some 203), .mv (.t 18), none⟩,
      ⟨(some 204), .mv (.t 4), none⟩,
      ⟨(some 205), .call 149 [(.t 200), (.t 201), (.t 202), (.t 203), (.t 204)], none⟩] (some [0, 3, 4, 18, 24]))
    .skip))
  (.seq (.region [⟨(some 206), .mv (.t 18), none⟩,
    ⟨(some 207), .mv (.t 24), none⟩,
    ⟨(some 208), .bin .lss (.t 206) (.t 207), none⟩,
    ⟨(some 209), .mv (.t 208), none⟩,
    ⟨(some 210), .mv (.t 24), (some (209, true))⟩,
    ⟨(some 211), .mv (.t 3), (some (209, true))⟩,
    ⟨(some 212), .bin .lss (.t 210) (.t 211), (some (209, true))⟩,
    ⟨(some 213), .pick (.t 209) (.t 212) (.c (.bool false)), none⟩] (some [0, 3, 4, 18, 24, 213]))
  (.cond (.t 213)
    (.region [⟨(some 214), .mv (.t 0), none⟩,
      ⟨(some 215), .mv (.t 18), none⟩,
      ⟨(some 216), .mv (.t 24), none⟩,
      ⟨(some 217), .mv (.t 3), none⟩,
      ⟨(some 218), .mv (.t 4), none⟩,
      ⟨(some 219), .call 149 [(.t 214), (.t 215), (.t 216), (.t 217), (.t 218)], none⟩] (some []))
    .skip))))))))))))), []⟩
theorem slices_symMergeCmpFunc_Pair_ok : cFn Tryz.prog (kps [[0, 1, 2, 3, 4, 28], [0, 1, 3, 4, 10], [0, 1, 4, 10, 11], [0, 1, 4, 10, 11, 33], [0, 1, 4, 10, 11, 12], [0, 1, 4, 10, 11, 12, 50], [0, 1, 4, 10, 11], [0, 1, 4, 10, 11], [0, 10, 13], [0, 10, 13, 58], [0, 10, 13], [0, 10, 13], [0, 1, 2, 3, 4, 80], [0, 2, 4, 14], [0, 2, 4, 14, 15], [0, 2, 4, 14, 15, 85], [0, 2, 4, 14, 15, 16], [0, 2, 4, 14, 15, 16, 103], [0, 2, 4, 14, 15], [0, 2, 4, 14, 15], [0, 14, 17], [0, 14, 17, 110], [0, 14, 17], [0, 14, 17], [0, 1, 2, 3, 4, 18], [0, 1, 2, 3, 4, 18, 19], [0, 1, 2, 3, 4, 18, 19], [0, 1, 2, 3, 4, 18, 19, 140], [0, 1, 2, 3, 4, 18, 19, 20], [0, 1, 2, 3, 4, 18, 19, 20, 21], [0, 1, 2, 3, 4, 18, 19, 20], [0, 1, 2, 3, 4, 18, 19, 20, 21], [0, 1, 2, 3, 4, 18, 19, 20, 21, 22], [0, 1, 2, 3, 4, 18, 19, 20, 21, 22, 151], [0, 1, 2, 3, 4, 18, 19, 20, 21, 22, 23], [0, 1, 2, 3, 4, 18, 19, 20, 21, 22, 23, 171], [0, 1, 2, 3, 4, 18, 19, 20, 21, 22], [0, 1, 2, 3, 4, 18, 19, 20, 21, 22], [0, 1, 2, 3, 4, 18, 20, 24], [0, 1, 2, 3, 4, 18, 20, 24, 185], [0, 1, 3, 4, 18, 20, 24], [0, 1, 3, 4, 18, 20, 24, 199], [0, 3, 4, 18, 24], [0, 3, 4, 18, 24, 213], []]) [] 149 = some slices_symMergeCmpFunc_Pair_c := by kernel_rfl
abbrev slices_IndexFunc_Value_Value : Nat := 150
def slices_IndexFunc_Value_Value_c : MFn :=
  ⟨19, (.seq (.region [⟨(some 4), .mv (.c (.int .i64 0)), none⟩] (some [0, 1]))
  (.seq (.seq (.region [⟨(some 6), .mv (.t 0), none⟩,
    ⟨(some 7), .lenS (.t 6), none⟩,
    ⟨(some 8), .mv (.c (.int .i64 0)), none⟩] (some [0, 1, 7, 8]))
  (.block 0 (.loop (.seq (.region [⟨(some 9), .bin .lss (.t 8) (.t 7), none⟩] (some [0, 1, 7, 8, 9]))
      (.seq (.cond (.t 9)
        .skip
        (.exit 0))
      (.seq (.block 1 (.seq (.region [⟨(some 10), .mv (.t 8), none⟩,
          ⟨(some 5), .mv (.t 10), none⟩] (some [0, 1, 5, 7, 8]))
        (.seq (.region [⟨(some 11), .mv (.t 1), none⟩,
          ⟨(some 12), .mv (.t 0), none⟩,
          ⟨(some 13), .mv (.t 5), none⟩,
          ⟨(some 14), .ixA 3 (.t 12) (.t 13), none⟩,
          ⟨(some 15), .ld (some 3) (.t 14), none⟩,
          ⟨(some 16), .callV (.t 11) [(.t 15)], none⟩] (some [0, 1, 5, 7, 8, 16]))
        (.cond (.t 16)
          (.seq (.region [⟨(some 17), .mv (.t 5), none⟩,
            ⟨(some 4), .mv (.t 17), none⟩] (some [4]))
          .ret)
          .skip))))
      (.region [⟨(some 18), .bin .add (.t 8) (.c (.int .i64 1)), none⟩,
        ⟨(some 8), .mv (.t 18), none⟩] (some [0, 1, 7, 8]))))))))
  (.seq (.region [⟨(some 4), .mv (.c (.int .i64 (-1))), none⟩] (some [4]))
  .ret))), [.t 4]⟩
theorem slices_IndexFunc_Value_Value_ok : cFn Tryz.prog (kps [[0, 1], [0, 1, 7, 8], [0, 1, 7, 8, 9], [0, 1, 5, 7, 8], [0, 1, 5, 7, 8, 16], [4], [0, 1, 7, 8], [4]]) [] 150 = some slices_IndexFunc_Value_Value_c := by kernel_rfl
abbrev slices_rotateCmpFunc_Pair : Nat := 153
def slices_rotateCmpFunc_Pair_c : MFn :=
  ⟨58, (.seq (.region [⟨(some 12), .mv (.t 2), none⟩,
    ⟨(some 13), .mv (.t 1), none⟩,
    ⟨(some 14), .bin .sub (.t 12) (.t 13), none⟩,
    ⟨(some 10), .mv (.t 14), none⟩] (some [0, 2, 3, 4, 10]))
  (.seq (.region [⟨(some 15), .mv (.t 3), none⟩,
    ⟨(some 16), .mv (.t 2), none⟩,
    ⟨(some 17), .bin .sub (.t 15) (.t 16), none⟩,
    ⟨(some 11), .mv (.t 17), none⟩] (some [0, 2, 4, 10, 11]))
  (.seq (.block 0 (.loop (.seq (.seq (.region [⟨(some 18), .mv (.t 10), none⟩,
        ⟨(some 19), .mv (.t 11), none⟩,
        ⟨(some 20), .bin .neq (.t 18) (.t 19), none⟩] (some [0, 2, 4, 10, 11, 20]))
      (.cond (.t 20)
        .skip
        (.exit 0)))
      (.block 1 (.seq (.region [⟨(some 21), .mv (.t 10), none⟩,
          ⟨(some 22), .mv (.t 11), none⟩,
          ⟨(some 23), .bin .gtr (.t 21) (.t 22), none⟩] (some [0, 2, 4, 10, 11, 23]))
        (.cond (.t 23)
          (.seq (.region [⟨(some 24), .mv (.t 0), none⟩,
            ⟨(some 25), .mv (.t 2), none⟩,
            ⟨(some 26), .mv (.t 10), none⟩,
            ⟨(some 27), .bin .sub (.t 25) (.t 26), none⟩,
            ⟨(some 28), .mv (.t 2), none⟩,
            ⟨(some 29), .mv (.t 11), none⟩,
            ⟨(some 30), .mv (.t 4), none⟩,
            ⟨(some 31), .call 154 [(.t 24), (.t 27), (.t 28), (.t 29), (.t 30)], none⟩] (some [0, 2, 4, 10, 11]))
          (.region [⟨(some 32), .mv (.t 10), none⟩,
            ⟨(some 33), .mv (.t 11), none⟩,
            ⟨(some 34), .bin .sub (.t 32) (.t 33), none⟩,
            ⟨(some 10), .mv (.t 34), none⟩] (some [0, 2, 4, 10, 11])))
          (.seq (.region [⟨(some 35), .mv (.t 0), none⟩,
            ⟨(some 36), .mv (.t 2), none⟩,
            ⟨(some 37), .mv (.t 10), none⟩,
            ⟨(some 38), .bin .sub (.t 36) (.t 37), none⟩,
            ⟨(some 39), .mv (.t 2), none⟩,
            ⟨(some 40), .mv (.t 11), none⟩,
            ⟨(some 41), .bin .add (.t 39) (.t 40), none⟩,
            ⟨(some 42), .mv (.t 10), none⟩,
            ⟨(some 43), .bin .sub (.t 41) (.t 42), none⟩,
            ⟨(some 44), .mv (.t 10), none⟩,
            ⟨(some 45), .mv (.t 4), none⟩,
            ⟨(some 46), .call 154 [(.t 35), (.t 38), (.t 43), (.t 44), (.t 45)], none⟩] (some [0, 2, 4, 10, 11]))
          (.region [⟨(some 47), .mv (.t 11), none⟩,
            ⟨(some 48), .mv (.t 10), none⟩,
            ⟨(some 49), .bin .sub (.t 47) (.t 48), none⟩,
            ⟨(some 11), .mv (.t 49), none⟩] (some [0, 2, 4, 10, 11])))))))))
  (.region [⟨(some 50), .mv (.t 0), none⟩,
    ⟨(some 51), .mv (.t 2), none⟩,
    ⟨(some 52), .mv (.t 10), none⟩,
    ⟨(some 53), .bin .sub (.t 51) (.t 52), none⟩,
    ⟨(some 54), .mv (.t 2), none⟩,
    ⟨(some 55), .mv (.t 10), none⟩,
    ⟨(some 56), .mv (.t 4), none⟩,
    ⟨(some 57), .call 154 [(.t 50), (.t 53), (.t 54), (.t 55), (.t 56)], none⟩] (some []))))), []⟩
theorem slices_rotateCmpFunc_Pair_ok : cFn Tryz.prog (kps [[0, 2, 3, 4, 10], [0, 2, 4, 10, 11], [0, 2, 4, 10, 11, 20], [0, 2, 4, 10, 11, 23], [0, 2, 4, 10, 11], [0, 2, 4, 10, 11], [0, 2, 4, 10, 11], [0, 2, 4, 10, 11], []]) [] 153 = some slices_rotateCmpFunc_Pair_c := by kernel_rfl
abbrev slices_swapRangeCmpFunc_Pair : Nat := 154
def slices_swapRangeCmpFunc_Pair_c : MFn :=
  ⟨38, (.seq (.region [⟨(some 10), .mv (.c (.int .i64 0)), none⟩] (some [0, 1, 2, 3, 10]))
  (.block 0 (.loop (.seq (.seq (.region [⟨(some 11), .mv (.t 10), none⟩,
        ⟨(some 12), .mv (.t 3), none⟩,
        ⟨(some 13), .bin .lss (.t 11) (.t 12), none⟩] (some [0, 1, 2, 3, 10, 13]))
      (.cond (.t 13)
        .skip
        (.exit 0)))
      (.seq (.block 1 (.region [⟨(some 16), .mv (.t 0), none⟩,
          ⟨(some 17), .mv (.t 1), none⟩,
          ⟨(some 18), .mv (.t 10), none⟩,
          ⟨(some 19), .bin .add (.t 17) (.t 18), none⟩,
          ⟨(some 20), .mv (.t 0), none⟩,
          ⟨(some 21), .mv (.t 2), none⟩,
          ⟨(some 22), .mv (.t 10), none⟩,
          ⟨(some 23), .bin .add (.t 21) (.t 22), none⟩,
          ⟨(some 24), .mv (.t 0), none⟩,
          ⟨(some 25), .mv (.t 2), none⟩,
          ⟨(some 26), .mv (.t 10), none⟩,
          ⟨(some 27), .bin .add (.t 25) (.t 26), none⟩,
          ⟨(some 28), .ixA 5 (.t 24) (.t 27), none⟩,
          ⟨(some 29), .ld (some 5) (.t 28), none⟩,
          ⟨(some 30), .mv (.t 0), none⟩,
          ⟨(some 31), .mv (.t 1), none⟩,
          ⟨(some 32), .mv (.t 10), none⟩,
          ⟨(some 33), .bin .add (.t 31) (.t 32), none⟩,
          ⟨(some 34), .ixA 5 (.t 30) (.t 33), none⟩,
          ⟨(some 35), .ld (some 5) (.t 34), none⟩,
          ⟨(some 36), .ixA 5 (.t 16) (.t 19), none⟩,
          ⟨none, .st 5 (.t 36) (.t 29), none⟩,
          ⟨(some 37), .ixA 5 (.t 20) (.t 23), none⟩,
          ⟨none, .st 5 (.t 37) (.t 35), none⟩] (some [0, 1, 2, 3, 10])))
      (.region [⟨(some 14), .mv (.t 10), none⟩,
        ⟨(some 15), .bin .add (.t 14) (.c (.int .i64 1)), none⟩,
        ⟨(some 10), .mv (.t 15), none⟩] (some [0, 1, 2, 3, 10]))))))), []⟩
theorem slices_swapRangeCmpFunc_Pair_ok : cFn Tryz.prog (kps [[0, 1, 2, 3, 10], [0, 1, 2, 3, 10, 13], [0, 1, 2, 3, 10], [0, 1, 2, 3, 10]]) [] 154 = some slices_swapRangeCmpFunc_Pair_c := by kernel_rfl
end Go.Proofs.YtnneehniendnfaaGreat.F

/- Functions of the program, as a table, for runs on data. Written by tab.py. -/
namespace Go.Proofs.YtnneehniendnfaaGreat
open Go Go.Proofs Go.Proofs.YtnneehniendnfaaGreat.E

def TAliveT (f : Nat) : Option MFn :=
  (match Nat.blt f 96 with
  | true =>
    (match Nat.blt f 57 with
    | true =>
      (match Nat.blt f 42 with
      | true =>
        (match Nat.blt f 24 with
        | true =>
          (match Nat.blt f 19 with
          | true =>
            (match Nat.blt f 16 with
            | true =>
              (match Nat.beq f 14 with | true => some F.couple_Right_c | false => none)
            | false =>
              (match Nat.beq f 16 with | true => some F.couple_Couples_c | false => none))
          | false =>
            (match Nat.blt f 20 with
            | true =>
              (match Nat.beq f 19 with | true => some F.law35_alive_c | false => none)
            | false =>
              (match Nat.blt f 22 with
              | true =>
                (match Nat.beq f 20 with | true => some F.couple_Apart_c | false => none)
              | false =>
                (match Nat.beq f 22 with | true => some F.couple_Best_c | false => none))))
        | false =>
          (match Nat.blt f 30 with
          | true =>
            (match Nat.blt f 27 with
            | true =>
              (match Nat.beq f 24 with | true => some F.ref02_Same_c | false => none)
            | false =>
              (match Nat.blt f 29 with
              | true =>
                (match Nat.beq f 27 with | true => some F.ref02_Compare_c | false => none)
              | false =>
                (match Nat.beq f 29 with | true => some F.ref02_Zero_c | false => none)))
          | false =>
            (match Nat.blt f 31 with
            | true =>
              (match Nat.beq f 30 with | true => some F.ref02_Add_c | false => none)
            | false =>
              (match Nat.blt f 41 with
              | true =>
                (match Nat.beq f 31 with | true => some F.ref02_Sub_c | false => none)
              | false =>
                (match Nat.beq f 41 with | true => some F.ratio_Zero_c | false => none)))))
      | false =>
        (match Nat.blt f 48 with
        | true =>
          (match Nat.blt f 45 with
          | true =>
            (match Nat.blt f 43 with
            | true =>
              (match Nat.beq f 42 with | true => some F.value_Right_c | false => none)
            | false =>
              (match Nat.blt f 44 with
              | true =>
                (match Nat.beq f 43 with | true => some F.ratio_Right_c | false => none)
              | false =>
                (match Nat.beq f 44 with | true => some F.ratio_Sign_c | false => none)))
          | false =>
            (match Nat.blt f 46 with
            | true =>
              (match Nat.beq f 45 with | true => some F.value_Compare_c | false => none)
            | false =>
              (match Nat.blt f 47 with
              | true =>
                (match Nat.beq f 46 with | true => some F.ratio_Add_c | false => none)
              | false =>
                (match Nat.beq f 47 with | true => some F.ratio_Same_c | false => none))))
        | false =>
          (match Nat.blt f 54 with
          | true =>
            (match Nat.blt f 51 with
            | true =>
              (match Nat.beq f 48 with | true => some F.ratio_One_c | false => none)
            | false =>
              (match Nat.blt f 53 with
              | true =>
                (match Nat.beq f 51 with | true => some F.ref02_Sign_c | false => none)
              | false =>
                (match Nat.beq f 53 with | true => some F.ref02_One_c | false => none)))
          | false =>
            (match Nat.blt f 55 with
            | true =>
              (match Nat.beq f 54 with | true => some F.couple_weights_c | false => none)
            | false =>
              (match Nat.blt f 56 with
              | true =>
                (match Nat.beq f 55 with | true => some F.couple_compare_c | false => none)
              | false =>
                (match Nat.beq f 56 with | true => some F.ratio_Sub_c | false => none))))))
    | false =>
      (match Nat.blt f 76 with
      | true =>
        (match Nat.blt f 65 with
        | true =>
          (match Nat.blt f 60 with
          | true =>
            (match Nat.blt f 58 with
            | true =>
              (match Nat.beq f 57 with | true => some F.slices_ContainsFunc_Ratio_Ratio_c | false => none)
            | false =>
              (match Nat.blt f 59 with
              | true =>
                (match Nat.beq f 58 with | true => some F.couple_Couples_1_c | false => none)
              | false =>
                (match Nat.beq f 59 with | true => some F.law35_sure_c | false => none)))
          | false =>
            (match Nat.blt f 61 with
            | true =>
              (match Nat.beq f 60 with | true => some F.couple_place_c | false => none)
            | false =>
              (match Nat.blt f 64 with
              | true =>
                (match Nat.beq f 61 with | true => some F.ref02_Neg_c | false => none)
              | false =>
                (match Nat.beq f 64 with | true => some F.ratio_Least_c | false => none))))
        | false =>
          (match Nat.blt f 73 with
          | true =>
            (match Nat.blt f 66 with
            | true =>
              (match Nat.beq f 65 with | true => some F.couple_gathered_c | false => none)
            | false =>
              (match Nat.blt f 72 with
              | true =>
                (match Nat.beq f 66 with | true => some F.couple_inOrder_c | false => none)
              | false =>
                (match Nat.beq f 72 with | true => some F.ref01_Of_c | false => none)))
          | false =>
            (match Nat.blt f 74 with
            | true =>
              (match Nat.beq f 73 with | true => some F.ref02_valid_c | false => none)
            | false =>
              (match Nat.blt f 75 with
              | true =>
                (match Nat.beq f 74 with | true => some F.ref01_Mul_c | false => none)
              | false =>
                (match Nat.beq f 75 with | true => some F.ref01_Add_c | false => none)))))
      | false =>
        (match Nat.blt f 90 with
        | true =>
          (match Nat.blt f 82 with
          | true =>
            (match Nat.blt f 77 with
            | true =>
              (match Nat.beq f 76 with | true => some F.ref01_Compare_c | false => none)
            | false =>
              (match Nat.blt f 78 with
              | true =>
                (match Nat.beq f 77 with | true => some F.ref01_Sub_c | false => none)
              | false =>
                (match Nat.beq f 78 with | true => some F.ref02_Of_c | false => none)))
          | false =>
            (match Nat.blt f 88 with
            | true =>
              (match Nat.beq f 82 with | true => some F.ratio_Compare_c | false => none)
            | false =>
              (match Nat.blt f 89 with
              | true =>
                (match Nat.beq f 88 with | true => some F.nat_Of_c | false => none)
              | false =>
                (match Nat.beq f 89 with | true => some F.value_shape_c | false => none))))
        | false =>
          (match Nat.blt f 93 with
          | true =>
            (match Nat.blt f 91 with
            | true =>
              (match Nat.beq f 90 with | true => some F.value_TypeRight_c | false => none)
            | false =>
              (match Nat.blt f 92 with
              | true =>
                (match Nat.beq f 91 with | true => some F.value_closed_c | false => none)
              | false =>
                (match Nat.beq f 92 with | true => some F.value_Size_c | false => none)))
          | false =>
            (match Nat.blt f 94 with
            | true =>
              (match Nat.beq f 93 with | true => some F.nat_Right_c | false => none)
            | false =>
              (match Nat.blt f 95 with
              | true =>
                (match Nat.beq f 94 with | true => some F.nat_Small_c | false => none)
              | false =>
                (match Nat.beq f 95 with | true => some F.nat_Gcd_c | false => none)))))))
  | false =>
    (match Nat.blt f 128 with
    | true =>
      (match Nat.blt f 112 with
      | true =>
        (match Nat.blt f 102 with
        | true =>
          (match Nat.blt f 99 with
          | true =>
            (match Nat.blt f 97 with
            | true =>
              (match Nat.beq f 96 with | true => some F.nat_Compare_c | false => none)
            | false =>
              (match Nat.blt f 98 with
              | true =>
                (match Nat.beq f 97 with | true => some F.cmp_Compare_int_c | false => none)
              | false =>
                (match Nat.beq f 98 with | true => some F.slices_CompareFunc_Value_Value_Value_Value_c | false => none)))
          | false =>
            (match Nat.blt f 100 with
            | true =>
              (match Nat.beq f 99 with | true => some F.ratio_made_c | false => none)
            | false =>
              (match Nat.blt f 101 with
              | true =>
                (match Nat.beq f 100 with | true => some F.nat_Mul_c | false => none)
              | false =>
                (match Nat.beq f 101 with | true => some F.nat_Add_c | false => none))))
        | false =>
          (match Nat.blt f 109 with
          | true =>
            (match Nat.blt f 106 with
            | true =>
              (match Nat.beq f 102 with | true => some F.nat_Sub_c | false => none)
            | false =>
              (match Nat.blt f 108 with
              | true =>
                (match Nat.beq f 106 with | true => some F.ref01_Gcd_c | false => none)
              | false =>
                (match Nat.beq f 108 with | true => some F.cmp_Or_int_c | false => none)))
          | false =>
            (match Nat.blt f 110 with
            | true =>
              (match Nat.beq f 109 with | true => some F.ratio_Neg_c | false => none)
            | false =>
              (match Nat.blt f 111 with
              | true =>
                (match Nat.beq f 110 with | true => some F.slices_IndexFunc_Ratio_Ratio_c | false => none)
              | false =>
                (match Nat.beq f 111 with | true => some F.slices_BinarySearchFunc_Part_Part_Value_c | false => none)))))
      | false =>
        (match Nat.blt f 122 with
        | true =>
          (match Nat.blt f 116 with
          | true =>
            (match Nat.blt f 114 with
            | true =>
              (match Nat.beq f 112 with | true => some F.couple_place_1_c | false => none)
            | false =>
              (match Nat.blt f 115 with
              | true =>
                (match Nat.beq f 114 with | true => some F.slices_SortStableFunc_Pair_Pair_c | false => none)
              | false =>
                (match Nat.beq f 115 with | true => some F.ref01_trim_c | false => none)))
          | false =>
            (match Nat.blt f 117 with
            | true =>
              (match Nat.beq f 116 with | true => some F.ref01_at_c | false => none)
            | false =>
              (match Nat.blt f 118 with
              | true =>
                (match Nat.beq f 117 with | true => some F.ref01_Bits_c | false => none)
              | false =>
                (match Nat.beq f 118 with | true => some F.ref01_Div_c | false => none))))
        | false =>
          (match Nat.blt f 125 with
          | true =>
            (match Nat.blt f 123 with
            | true =>
              (match Nat.beq f 122 with | true => some F.slices_Clone_Nat_uint32_c | false => none)
            | false =>
              (match Nat.blt f 124 with
              | true =>
                (match Nat.beq f 123 with | true => some F.nat_trim_c | false => none)
              | false =>
                (match Nat.beq f 124 with | true => some F.value_has_c | false => none)))
          | false =>
            (match Nat.blt f 126 with
            | true =>
              (match Nat.beq f 125 with | true => some F.value_join_c | false => none)
            | false =>
              (match Nat.blt f 127 with
              | true =>
                (match Nat.beq f 126 with | true => some F.value_deep_c | false => none)
              | false =>
                (match Nat.beq f 127 with | true => some F.nat_Div_c | false => none))))))
    | false =>
      (match Nat.blt f 143 with
      | true =>
        (match Nat.blt f 137 with
        | true =>
          (match Nat.blt f 134 with
          | true =>
            (match Nat.blt f 129 with
            | true =>
              (match Nat.beq f 128 with | true => some F.cmp_isNaN_int_c | false => none)
            | false =>
              (match Nat.blt f 133 with
              | true =>
                (match Nat.beq f 129 with | true => some F.ratio_Of_c | false => none)
              | false =>
                (match Nat.beq f 133 with | true => some F.ref01_Small_c | false => none)))
          | false =>
            (match Nat.blt f 135 with
            | true =>
              (match Nat.beq f 134 with | true => some F.ref01_even_c | false => none)
            | false =>
              (match Nat.blt f 136 with
              | true =>
                (match Nat.beq f 135 with | true => some F.ref01_half_c | false => none)
              | false =>
                (match Nat.beq f 136 with | true => some F.slices_stableCmpFunc_Pair_c | false => none))))
        | false =>
          (match Nat.blt f 140 with
          | true =>
            (match Nat.blt f 138 with
            | true =>
              (match Nat.beq f 137 with | true => some F.ref01_short_c | false => none)
            | false =>
              (match Nat.blt f 139 with
              | true =>
                (match Nat.beq f 138 with | true => some F.ref01_guess_c | false => none)
              | false =>
                (match Nat.beq f 139 with | true => some F.ref01_times_c | false => none)))
          | false =>
            (match Nat.blt f 141 with
            | true =>
              (match Nat.beq f 140 with | true => some F.slices_EqualFunc_Type_Value_Type_Value_c | false => none)
            | false =>
              (match Nat.blt f 142 with
              | true =>
                (match Nat.beq f 141 with | true => some F.slices_ContainsFunc_Value_Value_c | false => none)
              | false =>
                (match Nat.beq f 142 with | true => some F.value_has_1_c | false => none)))))
      | false =>
        (match Nat.blt f 149 with
        | true =>
          (match Nat.blt f 146 with
          | true =>
            (match Nat.blt f 144 with
            | true =>
              (match Nat.beq f 143 with | true => some F.slices_ContainsFunc_Type_Type_c | false => none)
            | false =>
              (match Nat.blt f 145 with
              | true =>
                (match Nat.beq f 144 with | true => some F.value_deep_1_c | false => none)
              | false =>
                (match Nat.beq f 145 with | true => some F.nat_short_c | false => none)))
          | false =>
            (match Nat.blt f 147 with
            | true =>
              (match Nat.beq f 146 with | true => some F.math_bits_LeadingZeros32_c | false => none)
            | false =>
              (match Nat.blt f 148 with
              | true =>
                (match Nat.beq f 147 with | true => some F.nat_shifted_c | false => none)
              | false =>
                (match Nat.beq f 148 with | true => some F.slices_insertionSortCmpFunc_Pair_c | false => none))))
        | false =>
          (match Nat.blt f 152 with
          | true =>
            (match Nat.blt f 150 with
            | true =>
              (match Nat.beq f 149 with | true => some F.slices_symMergeCmpFunc_Pair_c | false => none)
            | false =>
              (match Nat.blt f 151 with
              | true =>
                (match Nat.beq f 150 with | true => some F.slices_IndexFunc_Value_Value_c | false => none)
              | false =>
                (match Nat.beq f 151 with | true => some F.slices_IndexFunc_Type_Type_c | false => none)))
          | false =>
            (match Nat.blt f 153 with
            | true =>
              (match Nat.beq f 152 with | true => some F.math_bits_Len32_c | false => none)
            | false =>
              (match Nat.blt f 154 with
              | true =>
                (match Nat.beq f 153 with | true => some F.slices_rotateCmpFunc_Pair_c | false => none)
              | false =>
                (match Nat.beq f 154 with | true => some F.slices_swapRangeCmpFunc_Pair_c | false => none))))))))

theorem TAliveT_ok : TabOK Tryz.prog TAliveT := by
  intro f mf h
  unfold TAliveT at h
  repeat' split at h
  all_goals first | (simp at h; done) | skip
  · rename_i e; have e := Nat.eq_of_beq_eq_true e; subst e; injection h with h; subst h; exact ⟨_, _, F.couple_Right_ok⟩
  · rename_i e; have e := Nat.eq_of_beq_eq_true e; subst e; injection h with h; subst h; exact ⟨_, _, F.couple_Couples_ok⟩
  · rename_i e; have e := Nat.eq_of_beq_eq_true e; subst e; injection h with h; subst h; exact ⟨_, _, F.law35_alive_ok⟩
  · rename_i e; have e := Nat.eq_of_beq_eq_true e; subst e; injection h with h; subst h; exact ⟨_, _, F.couple_Apart_ok⟩
  · rename_i e; have e := Nat.eq_of_beq_eq_true e; subst e; injection h with h; subst h; exact ⟨_, _, F.couple_Best_ok⟩
  · rename_i e; have e := Nat.eq_of_beq_eq_true e; subst e; injection h with h; subst h; exact ⟨_, _, F.ref02_Same_ok⟩
  · rename_i e; have e := Nat.eq_of_beq_eq_true e; subst e; injection h with h; subst h; exact ⟨_, _, F.ref02_Compare_ok⟩
  · rename_i e; have e := Nat.eq_of_beq_eq_true e; subst e; injection h with h; subst h; exact ⟨_, _, F.ref02_Zero_ok⟩
  · rename_i e; have e := Nat.eq_of_beq_eq_true e; subst e; injection h with h; subst h; exact ⟨_, _, F.ref02_Add_ok⟩
  · rename_i e; have e := Nat.eq_of_beq_eq_true e; subst e; injection h with h; subst h; exact ⟨_, _, F.ref02_Sub_ok⟩
  · rename_i e; have e := Nat.eq_of_beq_eq_true e; subst e; injection h with h; subst h; exact ⟨_, _, F.ratio_Zero_ok⟩
  · rename_i e; have e := Nat.eq_of_beq_eq_true e; subst e; injection h with h; subst h; exact ⟨_, _, F.value_Right_ok⟩
  · rename_i e; have e := Nat.eq_of_beq_eq_true e; subst e; injection h with h; subst h; exact ⟨_, _, F.ratio_Right_ok⟩
  · rename_i e; have e := Nat.eq_of_beq_eq_true e; subst e; injection h with h; subst h; exact ⟨_, _, F.ratio_Sign_ok⟩
  · rename_i e; have e := Nat.eq_of_beq_eq_true e; subst e; injection h with h; subst h; exact ⟨_, _, F.value_Compare_ok⟩
  · rename_i e; have e := Nat.eq_of_beq_eq_true e; subst e; injection h with h; subst h; exact ⟨_, _, F.ratio_Add_ok⟩
  · rename_i e; have e := Nat.eq_of_beq_eq_true e; subst e; injection h with h; subst h; exact ⟨_, _, F.ratio_Same_ok⟩
  · rename_i e; have e := Nat.eq_of_beq_eq_true e; subst e; injection h with h; subst h; exact ⟨_, _, F.ratio_One_ok⟩
  · rename_i e; have e := Nat.eq_of_beq_eq_true e; subst e; injection h with h; subst h; exact ⟨_, _, F.ref02_Sign_ok⟩
  · rename_i e; have e := Nat.eq_of_beq_eq_true e; subst e; injection h with h; subst h; exact ⟨_, _, F.ref02_One_ok⟩
  · rename_i e; have e := Nat.eq_of_beq_eq_true e; subst e; injection h with h; subst h; exact ⟨_, _, F.couple_weights_ok⟩
  · rename_i e; have e := Nat.eq_of_beq_eq_true e; subst e; injection h with h; subst h; exact ⟨_, _, F.couple_compare_ok⟩
  · rename_i e; have e := Nat.eq_of_beq_eq_true e; subst e; injection h with h; subst h; exact ⟨_, _, F.ratio_Sub_ok⟩
  · rename_i e; have e := Nat.eq_of_beq_eq_true e; subst e; injection h with h; subst h; exact ⟨_, _, F.slices_ContainsFunc_Ratio_Ratio_ok⟩
  · rename_i e; have e := Nat.eq_of_beq_eq_true e; subst e; injection h with h; subst h; exact ⟨_, _, F.couple_Couples_1_ok⟩
  · rename_i e; have e := Nat.eq_of_beq_eq_true e; subst e; injection h with h; subst h; exact ⟨_, _, F.law35_sure_ok⟩
  · rename_i e; have e := Nat.eq_of_beq_eq_true e; subst e; injection h with h; subst h; exact ⟨_, _, F.couple_place_ok⟩
  · rename_i e; have e := Nat.eq_of_beq_eq_true e; subst e; injection h with h; subst h; exact ⟨_, _, F.ref02_Neg_ok⟩
  · rename_i e; have e := Nat.eq_of_beq_eq_true e; subst e; injection h with h; subst h; exact ⟨_, _, F.ratio_Least_ok⟩
  · rename_i e; have e := Nat.eq_of_beq_eq_true e; subst e; injection h with h; subst h; exact ⟨_, _, F.couple_gathered_ok⟩
  · rename_i e; have e := Nat.eq_of_beq_eq_true e; subst e; injection h with h; subst h; exact ⟨_, _, F.couple_inOrder_ok⟩
  · rename_i e; have e := Nat.eq_of_beq_eq_true e; subst e; injection h with h; subst h; exact ⟨_, _, F.ref01_Of_ok⟩
  · rename_i e; have e := Nat.eq_of_beq_eq_true e; subst e; injection h with h; subst h; exact ⟨_, _, F.ref02_valid_ok⟩
  · rename_i e; have e := Nat.eq_of_beq_eq_true e; subst e; injection h with h; subst h; exact ⟨_, _, F.ref01_Mul_ok⟩
  · rename_i e; have e := Nat.eq_of_beq_eq_true e; subst e; injection h with h; subst h; exact ⟨_, _, F.ref01_Add_ok⟩
  · rename_i e; have e := Nat.eq_of_beq_eq_true e; subst e; injection h with h; subst h; exact ⟨_, _, F.ref01_Compare_ok⟩
  · rename_i e; have e := Nat.eq_of_beq_eq_true e; subst e; injection h with h; subst h; exact ⟨_, _, F.ref01_Sub_ok⟩
  · rename_i e; have e := Nat.eq_of_beq_eq_true e; subst e; injection h with h; subst h; exact ⟨_, _, F.ref02_Of_ok⟩
  · rename_i e; have e := Nat.eq_of_beq_eq_true e; subst e; injection h with h; subst h; exact ⟨_, _, F.ratio_Compare_ok⟩
  · rename_i e; have e := Nat.eq_of_beq_eq_true e; subst e; injection h with h; subst h; exact ⟨_, _, F.nat_Of_ok⟩
  · rename_i e; have e := Nat.eq_of_beq_eq_true e; subst e; injection h with h; subst h; exact ⟨_, _, F.value_shape_ok⟩
  · rename_i e; have e := Nat.eq_of_beq_eq_true e; subst e; injection h with h; subst h; exact ⟨_, _, F.value_TypeRight_ok⟩
  · rename_i e; have e := Nat.eq_of_beq_eq_true e; subst e; injection h with h; subst h; exact ⟨_, _, F.value_closed_ok⟩
  · rename_i e; have e := Nat.eq_of_beq_eq_true e; subst e; injection h with h; subst h; exact ⟨_, _, F.value_Size_ok⟩
  · rename_i e; have e := Nat.eq_of_beq_eq_true e; subst e; injection h with h; subst h; exact ⟨_, _, F.nat_Right_ok⟩
  · rename_i e; have e := Nat.eq_of_beq_eq_true e; subst e; injection h with h; subst h; exact ⟨_, _, F.nat_Small_ok⟩
  · rename_i e; have e := Nat.eq_of_beq_eq_true e; subst e; injection h with h; subst h; exact ⟨_, _, F.nat_Gcd_ok⟩
  · rename_i e; have e := Nat.eq_of_beq_eq_true e; subst e; injection h with h; subst h; exact ⟨_, _, F.nat_Compare_ok⟩
  · rename_i e; have e := Nat.eq_of_beq_eq_true e; subst e; injection h with h; subst h; exact ⟨_, _, F.cmp_Compare_int_ok⟩
  · rename_i e; have e := Nat.eq_of_beq_eq_true e; subst e; injection h with h; subst h; exact ⟨_, _, F.slices_CompareFunc_Value_Value_Value_Value_ok⟩
  · rename_i e; have e := Nat.eq_of_beq_eq_true e; subst e; injection h with h; subst h; exact ⟨_, _, F.ratio_made_ok⟩
  · rename_i e; have e := Nat.eq_of_beq_eq_true e; subst e; injection h with h; subst h; exact ⟨_, _, F.nat_Mul_ok⟩
  · rename_i e; have e := Nat.eq_of_beq_eq_true e; subst e; injection h with h; subst h; exact ⟨_, _, F.nat_Add_ok⟩
  · rename_i e; have e := Nat.eq_of_beq_eq_true e; subst e; injection h with h; subst h; exact ⟨_, _, F.nat_Sub_ok⟩
  · rename_i e; have e := Nat.eq_of_beq_eq_true e; subst e; injection h with h; subst h; exact ⟨_, _, F.ref01_Gcd_ok⟩
  · rename_i e; have e := Nat.eq_of_beq_eq_true e; subst e; injection h with h; subst h; exact ⟨_, _, F.cmp_Or_int_ok⟩
  · rename_i e; have e := Nat.eq_of_beq_eq_true e; subst e; injection h with h; subst h; exact ⟨_, _, F.ratio_Neg_ok⟩
  · rename_i e; have e := Nat.eq_of_beq_eq_true e; subst e; injection h with h; subst h; exact ⟨_, _, F.slices_IndexFunc_Ratio_Ratio_ok⟩
  · rename_i e; have e := Nat.eq_of_beq_eq_true e; subst e; injection h with h; subst h; exact ⟨_, _, F.slices_BinarySearchFunc_Part_Part_Value_ok⟩
  · rename_i e; have e := Nat.eq_of_beq_eq_true e; subst e; injection h with h; subst h; exact ⟨_, _, F.couple_place_1_ok⟩
  · rename_i e; have e := Nat.eq_of_beq_eq_true e; subst e; injection h with h; subst h; exact ⟨_, _, F.slices_SortStableFunc_Pair_Pair_ok⟩
  · rename_i e; have e := Nat.eq_of_beq_eq_true e; subst e; injection h with h; subst h; exact ⟨_, _, F.ref01_trim_ok⟩
  · rename_i e; have e := Nat.eq_of_beq_eq_true e; subst e; injection h with h; subst h; exact ⟨_, _, F.ref01_at_ok⟩
  · rename_i e; have e := Nat.eq_of_beq_eq_true e; subst e; injection h with h; subst h; exact ⟨_, _, F.ref01_Bits_ok⟩
  · rename_i e; have e := Nat.eq_of_beq_eq_true e; subst e; injection h with h; subst h; exact ⟨_, _, F.ref01_Div_ok⟩
  · rename_i e; have e := Nat.eq_of_beq_eq_true e; subst e; injection h with h; subst h; exact ⟨_, _, F.slices_Clone_Nat_uint32_ok⟩
  · rename_i e; have e := Nat.eq_of_beq_eq_true e; subst e; injection h with h; subst h; exact ⟨_, _, F.nat_trim_ok⟩
  · rename_i e; have e := Nat.eq_of_beq_eq_true e; subst e; injection h with h; subst h; exact ⟨_, _, F.value_has_ok⟩
  · rename_i e; have e := Nat.eq_of_beq_eq_true e; subst e; injection h with h; subst h; exact ⟨_, _, F.value_join_ok⟩
  · rename_i e; have e := Nat.eq_of_beq_eq_true e; subst e; injection h with h; subst h; exact ⟨_, _, F.value_deep_ok⟩
  · rename_i e; have e := Nat.eq_of_beq_eq_true e; subst e; injection h with h; subst h; exact ⟨_, _, F.nat_Div_ok⟩
  · rename_i e; have e := Nat.eq_of_beq_eq_true e; subst e; injection h with h; subst h; exact ⟨_, _, F.cmp_isNaN_int_ok⟩
  · rename_i e; have e := Nat.eq_of_beq_eq_true e; subst e; injection h with h; subst h; exact ⟨_, _, F.ratio_Of_ok⟩
  · rename_i e; have e := Nat.eq_of_beq_eq_true e; subst e; injection h with h; subst h; exact ⟨_, _, F.ref01_Small_ok⟩
  · rename_i e; have e := Nat.eq_of_beq_eq_true e; subst e; injection h with h; subst h; exact ⟨_, _, F.ref01_even_ok⟩
  · rename_i e; have e := Nat.eq_of_beq_eq_true e; subst e; injection h with h; subst h; exact ⟨_, _, F.ref01_half_ok⟩
  · rename_i e; have e := Nat.eq_of_beq_eq_true e; subst e; injection h with h; subst h; exact ⟨_, _, F.slices_stableCmpFunc_Pair_ok⟩
  · rename_i e; have e := Nat.eq_of_beq_eq_true e; subst e; injection h with h; subst h; exact ⟨_, _, F.ref01_short_ok⟩
  · rename_i e; have e := Nat.eq_of_beq_eq_true e; subst e; injection h with h; subst h; exact ⟨_, _, F.ref01_guess_ok⟩
  · rename_i e; have e := Nat.eq_of_beq_eq_true e; subst e; injection h with h; subst h; exact ⟨_, _, F.ref01_times_ok⟩
  · rename_i e; have e := Nat.eq_of_beq_eq_true e; subst e; injection h with h; subst h; exact ⟨_, _, F.slices_EqualFunc_Type_Value_Type_Value_ok⟩
  · rename_i e; have e := Nat.eq_of_beq_eq_true e; subst e; injection h with h; subst h; exact ⟨_, _, F.slices_ContainsFunc_Value_Value_ok⟩
  · rename_i e; have e := Nat.eq_of_beq_eq_true e; subst e; injection h with h; subst h; exact ⟨_, _, F.value_has_1_ok⟩
  · rename_i e; have e := Nat.eq_of_beq_eq_true e; subst e; injection h with h; subst h; exact ⟨_, _, F.slices_ContainsFunc_Type_Type_ok⟩
  · rename_i e; have e := Nat.eq_of_beq_eq_true e; subst e; injection h with h; subst h; exact ⟨_, _, F.value_deep_1_ok⟩
  · rename_i e; have e := Nat.eq_of_beq_eq_true e; subst e; injection h with h; subst h; exact ⟨_, _, F.nat_short_ok⟩
  · rename_i e; have e := Nat.eq_of_beq_eq_true e; subst e; injection h with h; subst h; exact ⟨_, _, F.math_bits_LeadingZeros32_ok⟩
  · rename_i e; have e := Nat.eq_of_beq_eq_true e; subst e; injection h with h; subst h; exact ⟨_, _, F.nat_shifted_ok⟩
  · rename_i e; have e := Nat.eq_of_beq_eq_true e; subst e; injection h with h; subst h; exact ⟨_, _, F.slices_insertionSortCmpFunc_Pair_ok⟩
  · rename_i e; have e := Nat.eq_of_beq_eq_true e; subst e; injection h with h; subst h; exact ⟨_, _, F.slices_symMergeCmpFunc_Pair_ok⟩
  · rename_i e; have e := Nat.eq_of_beq_eq_true e; subst e; injection h with h; subst h; exact ⟨_, _, F.slices_IndexFunc_Value_Value_ok⟩
  · rename_i e; have e := Nat.eq_of_beq_eq_true e; subst e; injection h with h; subst h; exact ⟨_, _, F.slices_IndexFunc_Type_Type_ok⟩
  · rename_i e; have e := Nat.eq_of_beq_eq_true e; subst e; injection h with h; subst h; exact ⟨_, _, F.math_bits_Len32_ok⟩
  · rename_i e; have e := Nat.eq_of_beq_eq_true e; subst e; injection h with h; subst h; exact ⟨_, _, F.slices_rotateCmpFunc_Pair_ok⟩
  · rename_i e; have e := Nat.eq_of_beq_eq_true e; subst e; injection h with h; subst h; exact ⟨_, _, F.slices_swapRangeCmpFunc_Pair_ok⟩

end Go.Proofs.YtnneehniendnfaaGreat

/- The laws' own sample, run. -/
namespace Go.Proofs.YtnneehniendnfaaGreat
open Go Go.Proofs Go.Proofs.YtnneehniendnfaaGreat.E

def aliveX (f : Nat) : Bool := match Nat.beq f F.couple_weights || (Nat.beq f F.nat_shifted || (Nat.beq f F.couple_gathered || (Nat.beq f F.couple_inOrder || (Nat.beq f F.slices_SortStableFunc_Pair_Pair || (Nat.beq f F.slices_stableCmpFunc_Pair || (Nat.beq f F.slices_insertionSortCmpFunc_Pair)))))) with | true => true | false => false
def aliveB (f : Nat) (ds : List V) : Option V := match Nat.beq f F.slices_Clone_Nat_uint32, ds with | true, [.dat []] => some (.dat []) | _, _ => none
theorem aliveB_ok : BOK Tryz.prog aliveB := by
  intro f ds d h
  unfold aliveB at h
  split at h
  · rename_i e
    have e := Nat.eq_of_beq_eq_true e
    subst e
    injection h with h
    subst h
    exact slices_Clone (l := []) (by simp)
  · simp at h
set_option maxRecDepth 100000 in
theorem law35_alive : CallD Tryz.prog F.law35_alive [] (· = .bool true) :=
  callD_run (X := aliveX) TAliveT_ok aliveB_ok 100 (by kernel_rfl)
end Go.Proofs.YtnneehniendnfaaGreat
