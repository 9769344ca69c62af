/- Joined texts: CCou3, CCou4. -/
import Derived.Test.YtnneehniendnfaaGreatGO
/- Functions of the program, as the engine reads them; each is held against the translation. -/
namespace Go.Proofs.YtnneehniendnfaaGreat.F
open Go Go.Proofs Go.Proofs.YtnneehniendnfaaGreat.E
abbrev cmp_Or_int : Nat := 108
def cmp_Or_int_c : MFn :=
  ⟨18, (.seq (.region [⟨(some 2), .mv (.c (.int .i64 0)), none⟩] (some [0]))
  (.seq (.region [⟨(some 3), .mv (.c (.int .i64 0)), none⟩] (some [0, 3]))
  (.seq (.seq (.region [⟨(some 6), .mv (.t 0), none⟩,
    ⟨(some 7), .lenS (.t 6), none⟩,
    ⟨(some 8), .mv (.c (.int .i64 0)), none⟩] (some [3, 6, 7, 8]))
  (.block 0 (.loop (.seq (.region [⟨(some 9), .bin .lss (.t 8) (.t 7), none⟩] (some [3, 6, 7, 8, 9]))
      (.seq (.cond (.t 9)
        .skip
        (.exit 0))
      (.seq (.block 1 (.seq (.region [⟨(some 10), .ixA 1 (.t 6) (.t 8), none⟩,
          ⟨(some 11), .ld none (.t 10), none⟩,
          ⟨(some 5), .mv (.t 11), none⟩] (some [3, 5, 6, 7, 8]))
        (.seq (.region [⟨(some 12), .mv (.t 5), none⟩,
          ⟨(some 13), .mv (.t 3), none⟩,
          ⟨(some 14), .bin .neq (.t 12) (.t 13), none⟩] (some [3, 5, 6, 7, 8, 14]))
        (.cond (.t 14)
          (.seq (.region [⟨(some 15), .mv (.t 5), none⟩,
            ⟨(some 2), .mv (.t 15), none⟩] (some [2]))
          .ret)
          .skip))))
      (.region [⟨(some 16), .bin .add (.t 8) (.c (.int .i64 1)), none⟩,
        ⟨(some 8), .mv (.t 16), none⟩] (some [3, 6, 7, 8]))))))))
  (.seq (.region [⟨(some 17), .mv (.t 3), none⟩,
    ⟨(some 2), .mv (.t 17), none⟩] (some [2]))
  .ret)))), [.t 2]⟩
theorem cmp_Or_int_ok : cFn Tryz.prog (kps [[0], [0, 3], [3, 6, 7, 8], [3, 6, 7, 8, 9], [3, 5, 6, 7, 8], [3, 5, 6, 7, 8, 14], [2], [3, 6, 7, 8], [2]]) [] 108 = some cmp_Or_int_c := by kernel_rfl
abbrev couple_compare : Nat := 55
def couple_compare_c : MFn :=
  ⟨17, (.seq (.region [⟨(some 2), .box (.t 0), none⟩,
    ⟨(some 3), .box (.t 1), none⟩,
    ⟨(some 4), .mv (.c (.int .i64 0)), none⟩] (some [2, 3]))
  (.seq (.region [⟨(some 5), .fA 0 (.t 2), none⟩,
    ⟨(some 6), .ld none (.t 5), none⟩,
    ⟨(some 7), .fA 0 (.t 3), none⟩,
    ⟨(some 8), .ld none (.t 7), none⟩,
    ⟨(some 9), .callF 97 [(.t 6), (.t 8)], none⟩,
    ⟨(some 10), .fA 1 (.t 2), none⟩,
    ⟨(some 11), .ld none (.t 10), none⟩,
    ⟨(some 12), .fA 1 (.t 3), none⟩,
    ⟨(some 13), .ld none (.t 12), none⟩,
    ⟨(some 14), .callF 97 [(.t 11), (.t 13)], none⟩,
    ⟨(some 15), .buildSl 1 2 [.int .i64 0] [(0, (.t 9)), (1, (.t 14))], none⟩,
    ⟨(some 16), .callF 108 [(.t 15)], none⟩,
    ⟨(some 4), .mv (.t 16), none⟩] (some [4]))
  .ret)), [.t 4]⟩
theorem couple_compare_ok : cFn Tryz.prog (kps [[2, 3], [4]]) [] 55 = some couple_compare_c := by kernel_rfl
abbrev couple_Couples : Nat := 16
def couple_Couples_c : MFn :=
  ⟨108, (.seq (.region [⟨(some 6), .mv (.c (.bool false)), none⟩] (some [0, 1, 2]))
  (.seq (.seq (.region [⟨(some 11), .mv (.t 0), none⟩,
    ⟨(some 12), .call 14 [(.t 11)], none⟩,
    ⟨(some 13), .un .not (.t 12), none⟩,
    ⟨(some 14), .mv (.t 13), none⟩,
    ⟨(some 15), .mv (.t 1), (some (14, false))⟩,
    ⟨(some 16), .call 14 [(.t 15)], (some (14, false))⟩,
    ⟨(some 17), .un .not (.t 16), (some (14, false))⟩,
    ⟨(some 18), .pick (.t 14) (.c (.bool true)) (.t 17), none⟩] (some [0, 1, 2, 18]))
  (.cond (.t 18)
    (.seq (.region [⟨(some 6), .mv (.c (.bool false)), none⟩] (some [6]))
    .ret)
    .skip))
  (.seq (.region [⟨(some 19), .mv (.t 0), none⟩,
    ⟨(some 20), .call 54 [(.t 19)], none⟩,
    ⟨(some 21), .mv (.t 1), none⟩,
    ⟨(some 22), .call 54 [(.t 21)], none⟩,
    ⟨(some 7), .mv (.t 20), none⟩,
    ⟨(some 8), .mv (.t 22), none⟩] (some [0, 1, 2, 7, 8]))
  (.seq (.seq (.region [⟨(some 23), .mv (.t 2), none⟩,
    ⟨(some 24), .lenS (.t 23), none⟩,
    ⟨(some 25), .mv (.c (.int .i64 0)), none⟩] (some [0, 1, 2, 7, 8, 23, 24, 25]))
  (.block 0 (.loop (.seq (.region [⟨(some 26), .bin .lss (.t 25) (.t 24), none⟩] (some [0, 1, 2, 7, 8, 23, 24, 25, 26]))
      (.seq (.cond (.t 26)
        .skip
        (.exit 0))
      (.seq (.block 1 (.seq (.region [⟨(some 27), .mv (.t 25), none⟩,
          ⟨(some 28), .ixA 5 (.t 23) (.t 25), none⟩,
          ⟨(some 29), .ld (some 5) (.t 28), none⟩,
          ⟨(some 10), .alloc [.int .i64 0, .int .i64 0, .bool false, .nils, .nils], none⟩,
          ⟨(some 9), .mv (.t 27), none⟩,
          ⟨none, .st 5 (.t 10) (.t 29), none⟩] (some [0, 1, 2, 7, 8, 9, 10, 23, 24, 25]))
        (.seq (.seq (.region [⟨(some 30), .mv (.t 9), none⟩,
          ⟨(some 31), .bin .gtr (.t 30) (.c (.int .i64 0)), none⟩,
          ⟨(some 32), .mv (.t 31), none⟩,
          ⟨(some 33), .mv (.t 2), (some (32, true))⟩,
          ⟨(some 34), .mv (.t 9), (some (32, true))⟩,
          ⟨(some 35), .bin .sub (.t 34) (.c (.int .i64 1)), (some (32, true))⟩,
          ⟨(some 36), .ixA 5 (.t 33) (.t 35), (some (32, true))⟩,
          ⟨(some 37), .ld (some 5) (.t 36), (some (32, true))⟩,
          ⟨(some 38), .ld (some 5) (.t 10), (some (32, true))⟩,
          ⟨(some 39), .callF 55 [(.t 37), (.t 38)], (some (32, true))⟩,
          ⟨(some 40), .bin .geq (.t 39) (.c (.int .i64 0)), (some (32, true))⟩,
          ⟨(some 41), .pick (.t 32) (.t 40) (.c (.bool false)), none⟩,
          ⟨(some 42), .mv (.t 41), none⟩,
          ⟨(some 43), .fA 0 (.t 10), (some (42, false))⟩,
          ⟨(some 44), .ld none (.t 43), (some (42, false))⟩,
          ⟨(some 45), .bin .lss (.t 44) (.c (.int .i64 0)), (some (42, false))⟩,
          ⟨(some 46), .pick (.t 42) (.c (.bool true)) (.t 45), none⟩,
          ⟨(some 47), .mv (.t 46), none⟩,
          ⟨(some 48), .fA 0 (.t 10), (some (47, false))⟩,
          ⟨(some 49), .ld none (.t 48), (some (47, false))⟩,
          ⟨(some 50), .mv (.t 0), (some (47, false))⟩,
          ⟨(some 51), .lenS (.t 50), (some (47, false))⟩,
          ⟨(some 52), .bin .geq (.t 49) (.t 51), (some (47, false))⟩,
          ⟨(some 53), .pick (.t 47) (.c (.bool true)) (.t 52), none⟩,
          ⟨(some 54), .mv (.t 53), none⟩,
          ⟨(some 55), .fA 1 (.t 10), (some (54, false))⟩,
          ⟨(some 56), .ld none (.t 55), (some (54, false))⟩,
          ⟨(some 57), .bin .lss (.t 56) (.c (.int .i64 0)), (some (54, false))⟩,
          ⟨(some 58), .pick (.t 54) (.c (.bool true)) (.t 57), none⟩,
          ⟨(some 59), .mv (.t 58), none⟩,
          ⟨(some 60), .fA 1 (.t 10), (some (59, false))⟩,
          ⟨(some 61), .ld none (.t 60), (some (59, false))⟩,
          ⟨(some 62), .mv (.t 1), (some (59, false))⟩,
          ⟨(some 63), .lenS (.t 62), (some (59, false))⟩,
          ⟨(some 64), .bin .geq (.t 61) (.t 63), (some (59, false))⟩,
          ⟨(some 65), .pick (.t 59) (.c (.bool true)) (.t 64), none⟩,
          ⟨(some 66), .mv (.t 65), none⟩,
          ⟨(some 67), .fA 2 (.t 10), (some (66, false))⟩,
          ⟨(some 68), .ld (some 3) (.t 67), (some (66, false))⟩,
          ⟨(some 69), .callF 43 [(.t 68)], (some (66, false))⟩,
          ⟨(some 70), .un .not (.t 69), (some (66, false))⟩,
          ⟨(some 71), .pick (.t 66) (.c (.bool true)) (.t 70), none⟩,
          ⟨(some 72), .mv (.t 71), none⟩,
          ⟨(some 73), .fA 2 (.t 10), (some (72, false))⟩,
          ⟨(some 74), .ld (some 3) (.t 73), (some (72, false))⟩,
          ⟨(some 75), .callF 44 [(.t 74)], (some (72, false))⟩,
          ⟨(some 76), .bin .leq (.t 75) (.c (.int .i64 0)), (some (72, false))⟩,
          ⟨(some 77), .pick (.t 72) (.c (.bool true)) (.t 76), none⟩] (some [0, 1, 2, 7, 8, 10, 23, 24, 25, 77]))
        (.cond (.t 77)
          (.seq (.region [⟨(some 6), .mv (.c (.bool false)), none⟩] (some [6]))
          .ret)
          .skip))
        (.region [⟨(some 78), .mv (.t 7), none⟩,
          ⟨(some 79), .fA 0 (.t 10), none⟩,
          ⟨(some 80), .ld none (.t 79), none⟩,
          ⟨(some 81), .mv (.t 8), none⟩,
          ⟨(some 82), .fA 1 (.t 10), none⟩,
          ⟨(some 83), .ld none (.t 82), none⟩,
          ⟨(some 84), .mv (.t 7), none⟩,
          ⟨(some 85), .fA 0 (.t 10), none⟩,
          ⟨(some 86), .ld none (.t 85), none⟩,
          ⟨(some 87), .ixA 3 (.t 84) (.t 86), none⟩,
          ⟨(some 88), .ld (some 3) (.t 87), none⟩,
          ⟨(some 89), .fA 2 (.t 10), none⟩,
          ⟨(some 90), .ld (some 3) (.t 89), none⟩,
          ⟨(some 91), .callF 56 [(.t 88), (.t 90)], none⟩,
          ⟨(some 92), .mv (.t 8), none⟩,
          ⟨(some 93), .fA 1 (.t 10), none⟩,
          ⟨(some 94), .ld none (.t 93), none⟩,
          ⟨(some 95), .ixA 3 (.t 92) (.t 94), none⟩,
          ⟨(some 96), .ld (some 3) (.t 95), none⟩,
          ⟨(some 97), .fA 2 (.t 10), none⟩,
          ⟨(some 98), .ld (some 3) (.t 97), none⟩,
          ⟨(some 99), .callF 56 [(.t 96), (.t 98)], none⟩,
          ⟨(some 100), .ixA 3 (.t 78) (.t 80), none⟩,
          ⟨none, .stA 3 (.t 100) (.t 91) [82], none⟩,
          ⟨(some 101), .ixA 3 (.t 81) (.t 83), none⟩,
          ⟨none, .st 3 (.t 101) (.t 99), none⟩] (some [0, 1, 2, 7, 8, 23, 24, 25])))))
      (.region [⟨(some 102), .bin .add (.t 25) (.c (.int .i64 1)), none⟩,
        ⟨(some 25), .mv (.t 102), none⟩] (some [0, 1, 2, 7, 8, 23, 24, 25]))))))))
  (.seq (.region [⟨(some 103), .mv (.t 7), none⟩,
    ⟨(some 104), .mv (.t 8), none⟩,
    ⟨(some 105), .app 3 56 (.t 103) (.t 104), none⟩,
    ⟨(some 106), .call 57 [(.t 105), (.c (.clo 58 []))], none⟩,
    ⟨(some 107), .un .not (.t 106), none⟩,
    ⟨(some 6), .mv (.t 107), none⟩] (some [6]))
  .ret))))), [.t 6]⟩
theorem couple_Couples_ok : cFn Tryz.prog (kps [[0, 1, 2], [0, 1, 2, 18], [6], [0, 1, 2, 7, 8], [0, 1, 2, 7, 8, 23, 24, 25], [0, 1, 2, 7, 8, 23, 24, 25, 26], [0, 1, 2, 7, 8, 9, 10, 23, 24, 25], [0, 1, 2, 7, 8, 10, 23, 24, 25, 77], [6], [0, 1, 2, 7, 8, 23, 24, 25], [0, 1, 2, 7, 8, 23, 24, 25], [6]]) [] 16 = some couple_Couples_c := by kernel_rfl
abbrev ref35_Couples : Nat := 17
def ref35_Couples_c : MFn :=
  ⟨162, (.seq (.region [⟨(some 6), .mv (.c (.bool false)), none⟩] (some [0, 1, 2]))
  (.seq (.seq (.region [⟨(some 17), .mv (.t 0), none⟩,
    ⟨(some 18), .call 15 [(.t 17)], none⟩,
    ⟨(some 19), .un .not (.t 18), none⟩,
    ⟨(some 20), .mv (.t 19), none⟩,
    ⟨(some 21), .mv (.t 1), (some (20, false))⟩,
    ⟨(some 22), .call 15 [(.t 21)], (some (20, false))⟩,
    ⟨(some 23), .un .not (.t 22), (some (20, false))⟩,
    ⟨(some 24), .pick (.t 20) (.c (.bool true)) (.t 23), none⟩] (some [0, 1, 2, 24]))
  (.cond (.t 24)
    (.seq (.region [⟨(some 6), .mv (.c (.bool false)), none⟩] (some [6]))
    .ret)
    .skip))
  (.seq (.seq (.region [⟨(some 25), .mv (.t 2), none⟩,
    ⟨(some 26), .lenS (.t 25), none⟩,
    ⟨(some 27), .mv (.c (.int .i64 0)), none⟩] (some [0, 1, 2, 25, 26, 27]))
  (.block 0 (.loop (.seq (.region [⟨(some 28), .bin .lss (.t 27) (.t 26), none⟩] (some [0, 1, 2, 25, 26, 27, 28]))
      (.seq (.cond (.t 28)
        .skip
        (.exit 0))
      (.seq (.block 1 (.seq (.region [⟨(some 29), .mv (.t 27), none⟩,
          ⟨(some 30), .ixA 5 (.t 25) (.t 27), none⟩,
          ⟨(some 31), .ld (some 5) (.t 30), none⟩,
          ⟨(some 8), .alloc [.int .i64 0, .int .i64 0, .bool false, .nils, .nils], none⟩,
          ⟨(some 7), .mv (.t 29), none⟩,
          ⟨none, .st 5 (.t 8) (.t 31), none⟩] (some [0, 1, 2, 7, 8, 25, 26, 27]))
        (.seq (.seq (.region [⟨(some 32), .fA 0 (.t 8), none⟩,
          ⟨(some 33), .ld none (.t 32), none⟩,
          ⟨(some 34), .bin .lss (.t 33) (.c (.int .i64 0)), none⟩,
          ⟨(some 35), .mv (.t 34), none⟩,
          ⟨(some 36), .fA 0 (.t 8), (some (35, false))⟩,
          ⟨(some 37), .ld none (.t 36), (some (35, false))⟩,
          ⟨(some 38), .mv (.t 0), (some (35, false))⟩,
          ⟨(some 39), .lenS (.t 38), (some (35, false))⟩,
          ⟨(some 40), .bin .geq (.t 37) (.t 39), (some (35, false))⟩,
          ⟨(some 41), .pick (.t 35) (.c (.bool true)) (.t 40), none⟩,
          ⟨(some 42), .mv (.t 41), none⟩,
          ⟨(some 43), .fA 1 (.t 8), (some (42, false))⟩,
          ⟨(some 44), .ld none (.t 43), (some (42, false))⟩,
          ⟨(some 45), .bin .lss (.t 44) (.c (.int .i64 0)), (some (42, false))⟩,
          ⟨(some 46), .pick (.t 42) (.c (.bool true)) (.t 45), none⟩,
          ⟨(some 47), .mv (.t 46), none⟩,
          ⟨(some 48), .fA 1 (.t 8), (some (47, false))⟩,
          ⟨(some 49), .ld none (.t 48), (some (47, false))⟩,
          ⟨(some 50), .mv (.t 1), (some (47, false))⟩,
          ⟨(some 51), .lenS (.t 50), (some (47, false))⟩,
          ⟨(some 52), .bin .geq (.t 49) (.t 51), (some (47, false))⟩,
          ⟨(some 53), .pick (.t 47) (.c (.bool true)) (.t 52), none⟩,
          ⟨(some 54), .mv (.t 53), none⟩,
          ⟨(some 55), .fA 2 (.t 8), (some (54, false))⟩,
          ⟨(some 56), .ld (some 3) (.t 55), (some (54, false))⟩,
          ⟨(some 57), .call 50 [(.t 56)], (some (54, false))⟩,
          ⟨(some 58), .un .not (.t 57), (some (54, false))⟩,
          ⟨(some 59), .pick (.t 54) (.c (.bool true)) (.t 58), none⟩,
          ⟨(some 60), .mv (.t 59), none⟩,
          ⟨(some 61), .fA 2 (.t 8), (some (60, false))⟩,
          ⟨(some 62), .ld (some 3) (.t 61), (some (60, false))⟩,
          ⟨(some 63), .call 51 [(.t 62)], (some (60, false))⟩,
          ⟨(some 64), .bin .leq (.t 63) (.c (.int .i64 0)), (some (60, false))⟩,
          ⟨(some 65), .pick (.t 60) (.c (.bool true)) (.t 64), none⟩] (some [0, 1, 2, 7, 8, 25, 26, 27, 65]))
        (.cond (.t 65)
          (.seq (.region [⟨(some 6), .mv (.c (.bool false)), none⟩] (some [6]))
          .ret)
          .skip))
        (.seq (.region [⟨(some 66), .mv (.t 7), none⟩,
          ⟨(some 67), .bin .gtr (.t 66) (.c (.int .i64 0)), none⟩,
          ⟨(some 68), .mv (.t 67), none⟩,
          ⟨(some 69), .mv (.t 2), (some (68, true))⟩,
          ⟨(some 70), .mv (.t 7), (some (68, true))⟩,
          ⟨(some 71), .bin .sub (.t 70) (.c (.int .i64 1)), (some (68, true))⟩,
          ⟨(some 72), .ixA 5 (.t 69) (.t 71), (some (68, true))⟩,
          ⟨(some 73), .fA 0 (.t 72), (some (68, true))⟩,
          ⟨(some 74), .ld none (.t 73), (some (68, true))⟩,
          ⟨(some 75), .fA 0 (.t 8), (some (68, true))⟩,
          ⟨(some 76), .ld none (.t 75), (some (68, true))⟩,
          ⟨(some 77), .bin .gtr (.t 74) (.t 76), (some (68, true))⟩,
          ⟨(some 78), .mv (.t 77), (some (68, true))⟩,
          ⟨(some 79), .mv (.t 2), (some (78, false))⟩,
          ⟨(some 80), .mv (.t 7), (some (78, false))⟩,
          ⟨(some 81), .bin .sub (.t 80) (.c (.int .i64 1)), (some (78, false))⟩,
          ⟨(some 82), .ixA 5 (.t 79) (.t 81), (some (78, false))⟩,
          ⟨(some 83), .fA 0 (.t 82), (some (78, false))⟩,
          ⟨(some 84), .ld none (.t 83), (some (78, false))⟩,
          ⟨(some 85), .fA 0 (.t 8), (some (78, false))⟩,
          ⟨(some 86), .ld none (.t 85), (some (78, false))⟩,
          ⟨(some 87), .bin .eql (.t 84) (.t 86), (some (78, false))⟩,
          ⟨(some 88), .mv (.t 87), (some (78, false))⟩,
          ⟨(some 89), .mv (.t 2), (some (88, true))⟩,
          ⟨(some 90), .mv (.t 7), (some (88, true))⟩,
          ⟨(some 91), .bin .sub (.t 90) (.c (.int .i64 1)), (some (88, true))⟩,
          ⟨(some 92), .ixA 5 (.t 89) (.t 91), (some (88, true))⟩,
          ⟨(some 93), .fA 1 (.t 92), (some (88, true))⟩,
          ⟨(some 94), .ld none (.t 93), (some (88, true))⟩,
          ⟨(some 95), .fA 1 (.t 8), (some (88, true))⟩,
          ⟨(some 96), .ld none (.t 95), (some (88, true))⟩,
          ⟨(some 97), .bin .geq (.t 94) (.t 96), (some (88, true))⟩,
          ⟨(some 98), .pick (.t 88) (.t 97) (.c (.bool false)), (some (78, false))⟩,
          ⟨(some 99), .pick (.t 78) (.c (.bool true)) (.t 98), (some (68, true))⟩,
          ⟨(some 100), .pick (.t 68) (.t 99) (.c (.bool false)), none⟩] (some [0, 1, 2, 25, 26, 27, 100]))
        (.cond (.t 100)
          (.seq (.region [⟨(some 6), .mv (.c (.bool false)), none⟩] (some [6]))
          .ret)
          .skip)))))
      (.region [⟨(some 101), .bin .add (.t 27) (.c (.int .i64 1)), none⟩,
        ⟨(some 27), .mv (.t 101), none⟩] (some [0, 1, 2, 25, 26, 27]))))))))
  (.seq (.seq (.region [⟨(some 102), .mv (.t 0), none⟩,
    ⟨(some 103), .lenS (.t 102), none⟩,
    ⟨(some 104), .mv (.c (.int .i64 0)), none⟩] (some [0, 1, 2, 103, 104]))
  (.block 2 (.loop (.seq (.region [⟨(some 105), .bin .lss (.t 104) (.t 103), none⟩] (some [0, 1, 2, 103, 104, 105]))
      (.seq (.cond (.t 105)
        .skip
        (.exit 2))
      (.seq (.block 3 (.seq (.region [⟨(some 106), .mv (.t 104), none⟩,
          ⟨(some 9), .mv (.t 106), none⟩] (some [0, 1, 2, 9, 103, 104]))
        (.seq (.region [⟨(some 107), .call 29 [], none⟩,
          ⟨(some 10), .alloc [.bool false, .nils, .nils], none⟩,
          ⟨none, .st 3 (.t 10) (.t 107), none⟩] (some [0, 1, 2, 9, 10, 103, 104]))
        (.seq (.seq (.region [⟨(some 108), .mv (.t 2), none⟩,
          ⟨(some 109), .lenS (.t 108), none⟩,
          ⟨(some 110), .mv (.c (.int .i64 0)), none⟩] (some [0, 1, 2, 9, 10, 103, 104, 108, 109, 110]))
        (.block 4 (.loop (.seq (.region [⟨(some 111), .bin .lss (.t 110) (.t 109), none⟩] (some [0, 1, 2, 9, 10, 103, 104, 108, 109, 110, 111]))
            (.seq (.cond (.t 111)
              .skip
              (.exit 4))
            (.seq (.block 5 (.seq (.region [⟨(some 112), .ixA 5 (.t 108) (.t 110), none⟩,
                ⟨(some 113), .ld (some 5) (.t 112), none⟩,
                ⟨(some 12), .alloc [.int .i64 0, .int .i64 0, .bool false, .nils, .nils], none⟩,
                ⟨none, .st 5 (.t 12) (.t 113), none⟩] (some [0, 1, 2, 9, 10, 12, 103, 104, 108, 109, 110]))
              (.seq (.region [⟨(some 114), .fA 0 (.t 12), none⟩,
                ⟨(some 115), .ld none (.t 114), none⟩,
                ⟨(some 116), .mv (.t 9), none⟩,
                ⟨(some 117), .bin .eql (.t 115) (.t 116), none⟩] (some [0, 1, 2, 9, 10, 12, 103, 104, 108, 109, 110, 117]))
              (.cond (.t 117)
                (.region [⟨(some 118), .ld (some 3) (.t 10), none⟩,
                  ⟨(some 119), .fA 2 (.t 12), none⟩,
                  ⟨(some 120), .ld (some 3) (.t 119), none⟩,
                  ⟨(some 121), .call 30 [(.t 118), (.t 120)], none⟩,
                  ⟨none, .st 3 (.t 10) (.t 121), none⟩] (some [0, 1, 2, 9, 10, 103, 104, 108, 109, 110]))
                .skip))))
            (.region [⟨(some 122), .bin .add (.t 110) (.c (.int .i64 1)), none⟩,
              ⟨(some 110), .mv (.t 122), none⟩] (some [0, 1, 2, 9, 10, 103, 104, 108, 109, 110]))))))))
        (.seq (.region [⟨(some 123), .ld (some 3) (.t 10), none⟩,
          ⟨(some 124), .mv (.t 0), none⟩,
          ⟨(some 125), .mv (.t 9), none⟩,
          ⟨(some 126), .ixA 6 (.t 124) (.t 125), none⟩,
          ⟨(some 127), .fA 3 (.t 126), none⟩,
          ⟨(some 128), .ld (some 3) (.t 127), none⟩,
          ⟨(some 129), .callF 24 [(.t 123), (.t 128)], none⟩,
          ⟨(some 130), .un .not (.t 129), none⟩] (some [0, 1, 2, 103, 104, 130]))
        (.cond (.t 130)
          (.seq (.region [⟨(some 6), .mv (.c (.bool false)), none⟩] (some [6]))
          .ret)
          .skip))))))
      (.region [⟨(some 131), .bin .add (.t 104) (.c (.int .i64 1)), none⟩,
        ⟨(some 104), .mv (.t 131), none⟩] (some [0, 1, 2, 103, 104]))))))))
  (.seq (.seq (.region [⟨(some 132), .mv (.t 1), none⟩,
    ⟨(some 133), .lenS (.t 132), none⟩,
    ⟨(some 134), .mv (.c (.int .i64 0)), none⟩] (some [1, 2, 133, 134]))
  (.block 6 (.loop (.seq (.region [⟨(some 135), .bin .lss (.t 134) (.t 133), none⟩] (some [1, 2, 133, 134, 135]))
      (.seq (.cond (.t 135)
        .skip
        (.exit 6))
      (.seq (.block 7 (.seq (.region [⟨(some 136), .mv (.t 134), none⟩,
          ⟨(some 13), .mv (.t 136), none⟩] (some [1, 2, 13, 133, 134]))
        (.seq (.region [⟨(some 137), .call 29 [], none⟩,
          ⟨(some 14), .alloc [.bool false, .nils, .nils], none⟩,
          ⟨none, .st 3 (.t 14) (.t 137), none⟩] (some [1, 2, 13, 14, 133, 134]))
        (.seq (.seq (.region [⟨(some 138), .mv (.t 2), none⟩,
          ⟨(some 139), .lenS (.t 138), none⟩,
          ⟨(some 140), .mv (.c (.int .i64 0)), none⟩] (some [1, 2, 13, 14, 133, 134, 138, 139, 140]))
        (.block 8 (.loop (.seq (.region [⟨(some 141), .bin .lss (.t 140) (.t 139), none⟩] (some [1, 2, 13, 14, 133, 134, 138, 139, 140, 141]))
            (.seq (.cond (.t 141)
              .skip
              (.exit 8))
            (.seq (.block 9 (.seq (.region [⟨(some 142), .ixA 5 (.t 138) (.t 140), none⟩,
                ⟨(some 143), .ld (some 5) (.t 142), none⟩,
                ⟨(some 16), .alloc [.int .i64 0, .int .i64 0, .bool false, .nils, .nils], none⟩,
                ⟨none, .st 5 (.t 16) (.t 143), none⟩] (some [1, 2, 13, 14, 16, 133, 134, 138, 139, 140]))
              (.seq (.region [⟨(some 144), .fA 1 (.t 16), none⟩,
                ⟨(some 145), .ld none (.t 144), none⟩,
                ⟨(some 146), .mv (.t 13), none⟩,
                ⟨(some 147), .bin .eql (.t 145) (.t 146), none⟩] (some [1, 2, 13, 14, 16, 133, 134, 138, 139, 140, 147]))
              (.cond (.t 147)
                (.region [⟨(some 148), .ld (some 3) (.t 14), none⟩,
                  ⟨(some 149), .fA 2 (.t 16), none⟩,
                  ⟨(some 150), .ld (some 3) (.t 149), none⟩,
                  ⟨(some 151), .call 30 [(.t 148), (.t 150)], none⟩,
                  ⟨none, .st 3 (.t 14) (.t 151), none⟩] (some [1, 2, 13, 14, 133, 134, 138, 139, 140]))
                .skip))))
            (.region [⟨(some 152), .bin .add (.t 140) (.c (.int .i64 1)), none⟩,
              ⟨(some 140), .mv (.t 152), none⟩] (some [1, 2, 13, 14, 133, 134, 138, 139, 140]))))))))
        (.seq (.region [⟨(some 153), .ld (some 3) (.t 14), none⟩,
          ⟨(some 154), .mv (.t 1), none⟩,
          ⟨(some 155), .mv (.t 13), none⟩,
          ⟨(some 156), .ixA 6 (.t 154) (.t 155), none⟩,
          ⟨(some 157), .fA 3 (.t 156), none⟩,
          ⟨(some 158), .ld (some 3) (.t 157), none⟩,
          ⟨(some 159), .callF 24 [(.t 153), (.t 158)], none⟩,
          ⟨(some 160), .un .not (.t 159), none⟩] (some [1, 2, 133, 134, 160]))
        (.cond (.t 160)
          (.seq (.region [⟨(some 6), .mv (.c (.bool false)), none⟩] (some [6]))
          .ret)
          .skip))))))
      (.region [⟨(some 161), .bin .add (.t 134) (.c (.int .i64 1)), none⟩,
        ⟨(some 134), .mv (.t 161), none⟩] (some [1, 2, 133, 134]))))))))
  (.seq (.region [⟨(some 6), .mv (.c (.bool true)), none⟩] (some [6]))
  .ret)))))), [.t 6]⟩
theorem ref35_Couples_ok : cFn Tryz.prog (kps [[0, 1, 2], [0, 1, 2, 24], [6], [0, 1, 2, 25, 26, 27], [0, 1, 2, 25, 26, 27, 28], [0, 1, 2, 7, 8, 25, 26, 27], [0, 1, 2, 7, 8, 25, 26, 27, 65], [6], [0, 1, 2, 25, 26, 27, 100], [6], [0, 1, 2, 25, 26, 27], [0, 1, 2, 103, 104], [0, 1, 2, 103, 104, 105], [0, 1, 2, 9, 103, 104], [0, 1, 2, 9, 10, 103, 104], [0, 1, 2, 9, 10, 103, 104, 108, 109, 110], [0, 1, 2, 9, 10, 103, 104, 108, 109, 110, 111], [0, 1, 2, 9, 10, 12, 103, 104, 108, 109, 110], [0, 1, 2, 9, 10, 12, 103, 104, 108, 109, 110, 117], [0, 1, 2, 9, 10, 103, 104, 108, 109, 110], [0, 1, 2, 9, 10, 103, 104, 108, 109, 110], [0, 1, 2, 103, 104, 130], [6], [0, 1, 2, 103, 104], [1, 2, 133, 134], [1, 2, 133, 134, 135], [1, 2, 13, 133, 134], [1, 2, 13, 14, 133, 134], [1, 2, 13, 14, 133, 134, 138, 139, 140], [1, 2, 13, 14, 133, 134, 138, 139, 140, 141], [1, 2, 13, 14, 16, 133, 134, 138, 139, 140], [1, 2, 13, 14, 16, 133, 134, 138, 139, 140, 147], [1, 2, 13, 14, 133, 134, 138, 139, 140], [1, 2, 13, 14, 133, 134, 138, 139, 140], [1, 2, 133, 134, 160], [6], [1, 2, 133, 134], [6]]) [] 17 = some ref35_Couples_c := by kernel_rfl
end Go.Proofs.YtnneehniendnfaaGreat.F

/- Couplings, by contract: is it a coupling? The program's side. -/
namespace Go.Proofs.YtnneehniendnfaaGreat
open Go Go.Proofs Go.Proofs.YtnneehniendnfaaGreat.E
set_option linter.unusedSimpArgs false
set_option linter.unusedVariables false

theorem cmp_Or (x y : Int) : CallD Tryz.prog F.cmp_Or_int [.dat [[.int .i64 x], [.int .i64 y]]] (· = .int .i64 (orI x y)) := by
  refine callD_by F.cmp_Or_int_ok ?_
  unfold F.cmp_Or_int_c orI
  simp
  refine wm_loop (fun g : Nat => ((((Sl.empty.set 8 (.int .i64 g)).set 7 (.int .i64 2)).set 6 (.dat [[.int .i64 x], [.int .i64 y]])).set 3 (.int .i64 0), [])) (fun g => g ≤ 2 ∧ (0 < g → x = 0) ∧ (1 < g → y = 0)) (fun g => 2 - g) 0 ⟨by omega, by omega, by omega⟩ ?_ ?_
  · exact weak_p (by repeat (first | exact sub_empty | refine sub_set (by simp) ?_)) (by repeat (first | exact sin_empty | refine sin_set (by simp) ?_))
  rintro i ⟨hi, hx, hy⟩
  match i, hi with
  | 0, _ =>
    by_cases h : x = 0
    · simp [h]
      rw [wrap64 (by omega) (by omega)]
      refine ⟨1, ⟨by omega, by omega⟩, by dsimp only; omega, ?_⟩
      exact weak_p (by repeat (first | exact sub_empty | refine sub_set (by simp) ?_)) (by repeat (first | exact sin_empty | refine sin_set (by simp) ?_))
    · simp [h]
  | 1, _ =>
    have := hx (by omega)
    subst this
    by_cases h : y = 0
    · simp [h]
      rw [wrap64 (by omega) (by omega)]
      refine ⟨2, by omega, by dsimp only; omega, ?_⟩
      exact weak_p (by repeat (first | exact sub_empty | refine sub_set (by simp) ?_)) (by repeat (first | exact sin_empty | refine sin_set (by simp) ?_))
    · simp [h]
  | 2, _ =>
    have h1 := hx (by omega)
    have h2 := hy (by omega)
    subst h1; subst h2
    simp

theorem E.toD_ref {σ : Sto} {o n k es : Nat} {st : St} {l : List (List V)} (h : E.look σ o = some ⟨st, es, l⟩) (hs : st ≠ .dead) (he : es ≠ 0) (hl : l.length = n) (h0 : n ≠ 0) (hd : ∀ r ∈ l, mapO (toD σ k) r = some r) : toD σ (k + 1) (.ref o 0 n) = some (.dat l) := by
  rw [← grown_pos h0]; exact toD_grown (fun _ => h) hs he hl hd

theorem E.toD_clo0 (σ : Sto) (f : Nat) : toD σ 12 (.clo f []) = some (.clo f []) := (rfl)

theorem couple_compare (p q : Pr) : CallD Tryz.prog F.couple_compare [.agg (prC p), .agg (prC q)] (· = .int .i64 (cmpPr p q)) := by
  refine callD_by F.couple_compare_ok ?_
  unfold F.couple_compare_c cmpPr
  simp [setOb, List.filter_cons]
  refine callFK_of (cmp_Compare p.A q.A) (by simp) ?_
  simp
  refine callFK_of (cmp_Compare p.B q.B) (by simp) ?_
  simp [setOb, List.filter_cons]
  refine callFK_of (cmp_Or (cmpI p.A q.A) (cmpI p.B q.B)) ?_ ?_
  · simp
    rw [E.toD_ref (k := 11) (st := .own) (es := 1) (l := [[.int .i64 (cmpI p.A q.A)], [.int .i64 (cmpI p.B q.B)]]) (by simp [E.look]) (by simp) (by simp) (by simp) (by simp) (by simp)]
  simp

set_option maxHeartbeats 4000000 in
theorem couple_Couples {a b : List Part} {ps : List Pr} (ha : a.length ≤ 1000) (hb : b.length ≤ 1000) (hp : ps.length ≤ 1000) (oa : ∀ p ∈ a, p.Ok 1000000) (ob : ∀ p ∈ b, p.Ok 1000000) (op : ∀ p ∈ ps, p.w.Ok 1000000) :
    CallD Tryz.prog F.couple_Couples [pl a, pl b, prl ps] (· = .bool (couplesP a b ps)) := by
  refine callD_by F.couple_Couples_ok ?_
  unfold F.couple_Couples_c couplesP
  simp
  refine callK_of (couple_Right (by omega) oa) (by simp) ?_
  cases hra : rightP a with
  | false => simp
  | true =>
  simp
  refine callK_of (couple_Right (by omega) ob) (by simp) ?_
  cases hrb : rightP b with
  | false => simp
  | true =>
  have na : a.length ≠ 0 := by
    intro h; have : a = [] := List.length_eq_zero_iff.1 h
    subst this; simp [rightP, sumQ] at hra
  have nb : b.length ≠ 0 := by
    intro h; have : b = [] := List.length_eq_zero_iff.1 h
    subst this; simp [rightP, sumQ] at hrb
  have na' : a ≠ [] := fun h => na (by simp [h])
  have nb' : b ≠ [] := fun h => nb (by simp [h])
  simp
  refine callK_X (couple_weights (by omega) oa) ?_
  rintro r s ⟨rfl, rfl⟩
  simp [took, na', grown_pos na]
  refine callK_X (couple_weights (by omega) ob) ?_
  rintro r s ⟨rfl, rfl⟩
  simp [took, na', nb', grown_pos nb, setOb, List.filter_cons]
  rw [rowsOf_nil a Pr.A, rowsOf_nil b Pr.B]
  refine wm_loop (fun g : Nat => ((((((((Sl.empty.set 25 (.int .i64 g)).set 24 (.int .i64 ps.length)).set 23 (prl ps)).set 8 (.ref 1 0 b.length)).set 7 (.ref 0 0 a.length)).set 2 (prl ps)).set 1 (pl b)).set 0 (pl a), [(0, ⟨.own, 3, (rowsOf a Pr.A (ps.take g)).map Raw.c⟩), (1, ⟨.own, 3, (rowsOf b Pr.B (ps.take g)).map Raw.c⟩)]))
    (fun g => g ≤ ps.length ∧ ∀ j, j < g → okAt a.length b.length ps j = true) (fun g => ps.length - g) 0 ⟨by omega, fun j h => by omega⟩ ?_ ?_
  · refine weak_obs ?_ (by simp) (by repeat (first | exact sin_empty | refine sin_set (by simp) ?_)) ?_
    · repeat (first | exact sub_empty | refine sub_set (by simp) ?_)
    · simp
      refine ⟨fun x hx y hy => rawc_within _ y hy, fun x hx y hy => rawc_within _ y hy⟩
  rintro i ⟨hi, hb⟩
  by_cases h1 : i < ps.length
  · have okw : ps[i].w.Ok (2 ^ 33) := ⟨(op _ (List.getElem_mem h1)).dn, (op _ (List.getElem_mem h1)).dd, Nat.le_trans (op _ (List.getElem_mem h1)).ln (by omega), Nat.le_trans (op _ (List.getElem_mem h1)).ld (by omega)⟩
    have okw' : ps[i].w.Ok (2 ^ 31) := ⟨(op _ (List.getElem_mem h1)).dn, (op _ (List.getElem_mem h1)).dd, Nat.le_trans (op _ (List.getElem_mem h1)).ln (by omega), Nat.le_trans (op _ (List.getElem_mem h1)).ld (by omega)⟩
    have hpa := okAt_eq (a := a.length) (b := b.length) h1
    have bad : okAt a.length b.length ps i = false → (List.range ps.length).all (okAt a.length b.length ps) = false := fun h => by
      rw [List.all_eq_false]; exact ⟨i, by simpa using h1, by simp [h]⟩
    simp [h1, setOb, List.filter_cons]
    have vb : ¬ (0 ≤ ps[i].A ∧ ps[i].A < a.length ∧ 0 ≤ ps[i].B ∧ ps[i].B < b.length) → (List.range ps.length).all (okAt a.length b.length ps) = false := fun h => bad (by rw [hpa, decide_eq_false h]; rfl)
    refine Classical.byCases (p := i = 0) (fun h0 => ?_) (fun h0 => ?_)
    · have h0' : ¬ 0 < i := by omega
      have hord : ordB ps i = true := by rw [h0]; rfl
      simp [h0']
      by_cases hA0 : ps[i].A < 0
      · simp [vb (by omega), hA0]
      by_cases hA1 : (a.length : Int) ≤ ps[i].A
      · simp [vb (by omega), hA0, hA1]
      by_cases hB0 : ps[i].B < 0
      · simp [vb (by omega), hA0, hA1, hB0]
      by_cases hB1 : (b.length : Int) ≤ ps[i].B
      · simp [vb (by omega), hA0, hA1, hB0, hB1]
      simp [hA0, hA1, hB0, hB1]
      refine callFK_of (ratio_Right okw) (by simp [toD_rawc, raw_v]) ?_
      cases hr : ps[i].w.right with
      | false => simp [bad (by rw [hpa, hr]; simp)]
      | true =>
      simp
      refine callFK_of (ratio_Sign okw) (by simp [toD_rawc, raw_v]) ?_
      by_cases hq : ¬ 0 < ps[i].w.q
      · have h2 := sgnR_pos_iff.2 hq
        simp [bad (by rw [hpa]; simp [hq]), h2]
      have hq := Decidable.not_not.1 hq
      have h2 : ¬ sgnR ps[i].w.q ≤ 0 := fun h => sgnR_pos_iff.1 h hq
      obtain ⟨A, eA⟩ : ∃ A : Nat, ps[i].A = A := ⟨ps[i].A.toNat, by omega⟩
      obtain ⟨B, eB⟩ : ∃ B : Nat, ps[i].B = B := ⟨ps[i].B.toNat, by omega⟩
      have lA : A < a.length := by omega
      have lB : B < b.length := by omega
      simp [h2, eA, eB, lA, lB, setOb, List.filter_cons]
      refine callFK_of (ratio_Sub (rawOf_ok (left_fits (f := Pr.A) oa op hp A hi)) okw') (by simp [toD_rawc, raw_v]) ?_
      simp [ratV, raw_v, rawOf_q, eA, eB, lA, lB, setOb, List.filter_cons]
      refine callFK_of (ratio_Sub (rawOf_ok (left_fits (f := Pr.B) ob op hp B hi)) okw') (by simp [toD_rawc, raw_v]) ?_
      simp [ratV, raw_v, rawOf_q, eA, eB, lA, lB, setOb, List.filter_cons, offs, V.off]
      have eb : (List.map Raw.c (rowsOf b Pr.B (List.take i ps))).set B (rawOf (left b Pr.B (List.take i ps) B - ps[i].w.q)).c = List.map Raw.c (rowsOf b Pr.B (List.take (i + 1) ps)) := by
        rw [rowsOf_snoc h1 eB, List.map_set]
      have ea : (List.map Raw.c (rowsOf a Pr.A (List.take i ps))).set A (rawOf (left a Pr.A (List.take i ps) A - ps[i].w.q)).c = List.map Raw.c (rowsOf a Pr.A (List.take (i + 1) ps)) := by
        rw [rowsOf_snoc h1 eA, List.map_set]
      rw [ea, eb, wrap64 (by omega) (by omega)]
      refine ⟨i + 1, ⟨h1, fun j hj => ?_⟩, by dsimp only; omega, ?_⟩
      · by_cases e : j = i
        · rw [e, hpa, decide_eq_true (show 0 ≤ ps[i].A ∧ ps[i].A < a.length ∧ 0 ≤ ps[i].B ∧ ps[i].B < b.length by omega), hr, hord, decide_eq_true hq]; rfl
        · exact hb j (by omega)
      · refine weak_obs ?_ (by simp) (by repeat (first | exact sin_empty | refine sin_set (by simp) ?_)) ?_
        · repeat (first | exact sub_empty | refine sub_set (by simp) ?_)
        · simp
          refine ⟨fun x hx y hy => rawc_within _ y hy, fun x hx y hy => rawc_within _ y hy⟩
    · have h0'' : 0 < i := by omega
      have hi1 : i - 1 < ps.length := by omega
      have e1 : ((i : Int) - 1).toNat = i - 1 := by omega
      have h0' : (0 : Int) < i := by omega
      simp [h0, h0', h0'']
      repeat simp (disch := omega) [wrap64, if_pos, e1]
      refine callFK_of (couple_compare (ps[i - 1]'hi1) ps[i]) (by simp [toD_prC]) ?_
      by_cases hc : ¬ cmpPr (ps[i - 1]'hi1) ps[i] < 0
      · have hc' : 0 ≤ cmpPr (ps[i - 1]'hi1) ps[i] := by omega
        have := bad (by rw [hpa, ordB_pos h1 h0]; simp [hc])
        simp [this, hc']
      have hc := Decidable.not_not.1 hc
      have hc' : ¬ 0 ≤ cmpPr (ps[i - 1]'hi1) ps[i] := by omega
      have hord : ordB ps i = true := by rw [ordB_pos h1 h0]; simp [hc]
      simp [hc']
      by_cases hA0 : ps[i].A < 0
      · simp [vb (by omega), hA0]
      by_cases hA1 : (a.length : Int) ≤ ps[i].A
      · simp [vb (by omega), hA0, hA1]
      by_cases hB0 : ps[i].B < 0
      · simp [vb (by omega), hA0, hA1, hB0]
      by_cases hB1 : (b.length : Int) ≤ ps[i].B
      · simp [vb (by omega), hA0, hA1, hB0, hB1]
      simp [hA0, hA1, hB0, hB1]
      refine callFK_of (ratio_Right okw) (by simp [toD_rawc, raw_v]) ?_
      cases hr : ps[i].w.right with
      | false => simp [bad (by rw [hpa, hr]; simp)]
      | true =>
      simp
      refine callFK_of (ratio_Sign okw) (by simp [toD_rawc, raw_v]) ?_
      by_cases hq : ¬ 0 < ps[i].w.q
      · have h2 := sgnR_pos_iff.2 hq
        simp [bad (by rw [hpa]; simp [hq]), h2]
      have hq := Decidable.not_not.1 hq
      have h2 : ¬ sgnR ps[i].w.q ≤ 0 := fun h => sgnR_pos_iff.1 h hq
      obtain ⟨A, eA⟩ : ∃ A : Nat, ps[i].A = A := ⟨ps[i].A.toNat, by omega⟩
      obtain ⟨B, eB⟩ : ∃ B : Nat, ps[i].B = B := ⟨ps[i].B.toNat, by omega⟩
      have lA : A < a.length := by omega
      have lB : B < b.length := by omega
      simp [h2, eA, eB, lA, lB, setOb, List.filter_cons]
      refine callFK_of (ratio_Sub (rawOf_ok (left_fits (f := Pr.A) oa op hp A hi)) okw') (by simp [toD_rawc, raw_v]) ?_
      simp [ratV, raw_v, rawOf_q, eA, eB, lA, lB, setOb, List.filter_cons]
      refine callFK_of (ratio_Sub (rawOf_ok (left_fits (f := Pr.B) ob op hp B hi)) okw') (by simp [toD_rawc, raw_v]) ?_
      simp [ratV, raw_v, rawOf_q, eA, eB, lA, lB, setOb, List.filter_cons, offs, V.off]
      have eb : (List.map Raw.c (rowsOf b Pr.B (List.take i ps))).set B (rawOf (left b Pr.B (List.take i ps) B - ps[i].w.q)).c = List.map Raw.c (rowsOf b Pr.B (List.take (i + 1) ps)) := by
        rw [rowsOf_snoc h1 eB, List.map_set]
      have ea : (List.map Raw.c (rowsOf a Pr.A (List.take i ps))).set A (rawOf (left a Pr.A (List.take i ps) A - ps[i].w.q)).c = List.map Raw.c (rowsOf a Pr.A (List.take (i + 1) ps)) := by
        rw [rowsOf_snoc h1 eA, List.map_set]
      rw [ea, eb, wrap64 (by omega) (by omega)]
      refine ⟨i + 1, ⟨h1, fun j hj => ?_⟩, by dsimp only; omega, ?_⟩
      · by_cases e : j = i
        · rw [e, hpa, decide_eq_true (show 0 ≤ ps[i].A ∧ ps[i].A < a.length ∧ 0 ≤ ps[i].B ∧ ps[i].B < b.length by omega), hr, hord, decide_eq_true hq]; rfl
        · exact hb j (by omega)
      · refine weak_obs ?_ (by simp) (by repeat (first | exact sin_empty | refine sin_set (by simp) ?_)) ?_
        · repeat (first | exact sub_empty | refine sub_set (by simp) ?_)
        · simp
          refine ⟨fun x hx y hy => rawc_within _ y hy, fun x hx y hy => rawc_within _ y hy⟩
  · have hil : i = ps.length := by omega
    subst hil
    have hall : (List.range ps.length).all (okAt a.length b.length ps) = true := by
      rw [List.all_eq_true]; intro j hj; exact hb j (by simpa using hj)
    simp [h1, hall]
    have et : List.take b.length (List.map Raw.c (rowsOf b Pr.B ps)) = List.map Raw.c (rowsOf b Pr.B ps) := List.take_of_length_le (by simp)
    have lr := rowsOf_length b Pr.B ps
    rw [et]
    cases er : rowsOf b Pr.B ps with
    | nil => rw [er] at lr; exact (nb lr.symm).elim
    | cons y r =>
    rw [er] at lr
    simp at lr
    simp [lr, setOb, List.filter_cons]
    rw [if_pos (by omega)]
    simp
    refine callK_of (contains_Ratio (l := rowsOf a Pr.A ps ++ rowsOf b Pr.B ps) (p := fun x => decide (0 < x.num.length)) (by simp; omega) (fun _ _ => couple_Couples_1)) ?_ ?_
    · simp
      rw [E.toD_ref (k := 11) (st := .own) (es := 3) (l := (rowsOf a Pr.A ps ++ rowsOf b Pr.B ps).map Raw.c) (by simp [E.look, er]) (by simp) (by simp) (by simp) (by omega) (fun r hr => by obtain ⟨x, _, rfl⟩ := List.mem_map.1 hr; exact toD_rawc _ _ _), E.toD_clo0]
      simp [F.couple_Couples_1]
    rw [List.any_append]
    simp
    rw [rows_clear, rows_clear]
end Go.Proofs.YtnneehniendnfaaGreat

/- Couplings, by contract: is it a coupling? The reference's side. -/
namespace Go.Proofs.YtnneehniendnfaaGreat
open Go Go.Proofs Go.Proofs.YtnneehniendnfaaGreat.E
set_option linter.unusedSimpArgs false
set_option linter.unusedVariables false

set_option maxHeartbeats 8000000 in
theorem ref35_Couples {a b : List Part} {ps : List Pr} (ha : a.length ≤ 1000) (hb : b.length ≤ 1000) (hp : ps.length ≤ 1000) (oa : ∀ p ∈ a, p.Ok 1000000) (ob : ∀ p ∈ b, p.Ok 1000000) (op : ∀ p ∈ ps, p.w.Ok 1000000) :
    CallD Tryz.prog F.ref35_Couples [pl a, pl b, prl ps] (· = .bool (couplesP a b ps)) := by
  refine callD_by F.ref35_Couples_ok ?_
  unfold F.ref35_Couples_c couplesP
  simp
  refine callK_of (ref35_Right (by omega) oa) (by simp) ?_
  cases hra : rightP a with
  | false => simp
  | true =>
  simp
  refine callK_of (ref35_Right (by omega) ob) (by simp) ?_
  cases hrb : rightP b with
  | false => simp
  | true =>
  simp [setOb, List.filter_cons]
  refine wm_loop (fun g : Nat => ((((((Sl.empty.set 27 (.int .i64 g)).set 26 (.int .i64 ps.length)).set 25 (prl ps)).set 2 (prl ps)).set 1 (pl b)).set 0 (pl a), []))
    (fun g => g ≤ ps.length ∧ ∀ j, j < g → okAt a.length b.length ps j = true) (fun g => ps.length - g) 0 ⟨by omega, fun j h => by omega⟩ ?_ ?_
  · exact weak_p (by repeat (first | exact sub_empty | refine sub_set (by simp) ?_)) (by repeat (first | exact sin_empty | refine sin_set (by simp) ?_))
  rintro i ⟨hi, hb⟩
  by_cases h1 : i < ps.length
  · have okw : ps[i].w.Ok (2 ^ 33) := ⟨(op _ (List.getElem_mem h1)).dn, (op _ (List.getElem_mem h1)).dd, Nat.le_trans (op _ (List.getElem_mem h1)).ln (by omega), Nat.le_trans (op _ (List.getElem_mem h1)).ld (by omega)⟩
    have hpa := okAt_eq (a := a.length) (b := b.length) h1
    have bad : okAt a.length b.length ps i = false → (List.range ps.length).all (okAt a.length b.length ps) = false := fun h => by
      rw [List.all_eq_false]; exact ⟨i, by simpa using h1, by simp [h]⟩
    have vb : ¬ (0 ≤ ps[i].A ∧ ps[i].A < a.length ∧ 0 ≤ ps[i].B ∧ ps[i].B < b.length) → (List.range ps.length).all (okAt a.length b.length ps) = false := fun h => bad (by rw [hpa, decide_eq_false h]; rfl)
    simp [h1, setOb, List.filter_cons]
    by_cases hA0 : ps[i].A < 0
    · simp [vb (by omega), hA0]
    by_cases hA1 : (a.length : Int) ≤ ps[i].A
    · simp [vb (by omega), hA0, hA1]
    by_cases hB0 : ps[i].B < 0
    · simp [vb (by omega), hA0, hA1, hB0]
    by_cases hB1 : (b.length : Int) ≤ ps[i].B
    · simp [vb (by omega), hA0, hA1, hB0, hB1]
    simp [hA0, hA1, hB0, hB1]
    refine callK_of (ref02_Right okw) (by simp [toD_rawc, raw_v]) ?_
    cases hr : ps[i].w.right with
    | false => simp [bad (by rw [hpa, hr]; simp)]
    | true =>
    simp
    refine callK_of (ref02_Sign okw) (by simp [toD_rawc, raw_v]) ?_
    by_cases hq : ¬ 0 < ps[i].w.q
    · have h2 := sgnR_pos_iff.2 hq
      simp [bad (by rw [hpa]; simp [hq]), h2]
    have hq := Decidable.not_not.1 hq
    have h2 : ¬ sgnR ps[i].w.q ≤ 0 := fun h => sgnR_pos_iff.1 h hq
    have next : ordB ps i = true → ∀ j, j < i + 1 → okAt a.length b.length ps j = true := fun hord j hj => by
      by_cases e : j = i
      · rw [e, hpa, decide_eq_true (show 0 ≤ ps[i].A ∧ ps[i].A < a.length ∧ 0 ≤ ps[i].B ∧ ps[i].B < b.length by omega), hr, hord, decide_eq_true hq]; rfl
      · exact hb j (by omega)
    simp [h2]
    by_cases h0 : i = 0
    · have h0' : ¬ 0 < i := by omega
      have hord : ordB ps i = true := by rw [h0]; rfl
      simp [h0']
      rw [wrap64 (by omega) (by omega)]
      refine ⟨i + 1, ⟨h1, next hord⟩, by dsimp only; omega, ?_⟩
      exact weak_p (by repeat (first | exact sub_empty | refine sub_set (by simp) ?_)) (by repeat (first | exact sin_empty | refine sin_set (by simp) ?_))
    · have h0'' : 0 < i := by omega
      have hi1 : i - 1 < ps.length := by omega
      have e1 : ((i : Int) - 1).toNat = i - 1 := by omega
      have h0' : (0 : Int) < i := by omega
      have hord := ordB_pos h1 h0
      simp [h0, h0', h0'']
      repeat simp (disch := omega) [wrap64, if_pos, e1]
      by_cases c1 : ps[i].A < (ps[i - 1]'hi1).A
      · have hc : ¬ cmpPr (ps[i - 1]'hi1) ps[i] < 0 := by rw [cmpPr_neg]; omega
        have := bad (by rw [hpa, hord, decide_eq_false hc]; simp)
        simp [this, c1]
      by_cases c2 : (ps[i - 1]'hi1).A = ps[i].A
      · by_cases c3 : ps[i].B ≤ (ps[i - 1]'hi1).B
        · have hc : ¬ cmpPr (ps[i - 1]'hi1) ps[i] < 0 := by rw [cmpPr_neg]; omega
          have := bad (by rw [hpa, hord, decide_eq_false hc]; simp)
          simp [this, c1, c2, c3]
          repeat simp (disch := omega) [wrap64, if_pos, e1, c1, c2, c3, this]
        · have c4 : (ps[i - 1]'hi1).B < ps[i].B := by omega
          simp [c1, c2, c3, c4]
          repeat simp (disch := omega) [wrap64, if_pos, e1, c1, c2, c3, c4]
          refine ⟨i + 1, ⟨h1, next (by rw [hord]; exact decide_eq_true (by rw [cmpPr_neg]; omega))⟩, by dsimp only; omega, ?_⟩
          exact weak_p (by repeat (first | exact sub_empty | refine sub_set (by simp) ?_)) (by repeat (first | exact sin_empty | refine sin_set (by simp) ?_))
      · have c1' : (ps[i - 1]'hi1).A ≤ ps[i].A := by omega
        simp [c1, c1', c2]
        repeat simp (disch := omega) [wrap64, if_pos, e1, c1, c1', c2]
        refine ⟨i + 1, ⟨h1, next (by rw [hord]; exact decide_eq_true (by rw [cmpPr_neg]; omega))⟩, by dsimp only; omega, ?_⟩
        exact weak_p (by repeat (first | exact sub_empty | refine sub_set (by simp) ?_)) (by repeat (first | exact sin_empty | refine sin_set (by simp) ?_))
  have hil : i = ps.length := by omega
  subst hil
  have hall : (List.range ps.length).all (okAt a.length b.length ps) = true := by
    rw [List.all_eq_true]; intro j hj; exact hb j (by simpa using hj)
  clear hb hi
  simp [h1, hall]
  refine wm_loop (fun g : Nat => ((((((Sl.empty.set 104 (.int .i64 g)).set 103 (.int .i64 a.length)).set 2 (prl ps)).set 1 (pl b)).set 0 (pl a)), []))
    (fun g => g ≤ a.length ∧ ∀ j, j < g → sumS Pr.A ps j = wq a j) (fun g => a.length - g) 0 ⟨by omega, fun j h => by omega⟩ ?_ ?_
  · exact weak_p (by repeat (first | exact sub_empty | refine sub_set (by simp) ?_)) (by repeat (first | exact sin_empty | refine sin_set (by simp) ?_))
  rintro i ⟨hi, hs⟩
  by_cases h2 : i < a.length
  · simp [h2]
    refine callK_of ref02_Zero (by simp) ?_
    simp [setOb, List.filter_cons, ratV, raw_v]
    refine wm_loop (fun g : Nat => (((((((((((Sl.empty.set 110 (.int .i64 g)).set 109 (.int .i64 ps.length)).set 108 (prl ps)).set 104 (.int .i64 i)).set 103 (.int .i64 a.length)).set 10 (.ptr 0 0 0)).set 9 (.int .i64 i)).set 2 (prl ps)).set 1 (pl b)).set 0 (pl a)), [(0, ⟨.own, 3, [(rawOf (sumS Pr.A (ps.take g) i)).c]⟩)]))
      (fun g => g ≤ ps.length) (fun g => ps.length - g) 0 (by omega) ?_ ?_
    · refine weak_obs ?_ (by simp [sumS]) (by repeat (first | exact sin_empty | refine sin_set (by simp) ?_)) (by simp; exact fun y hy => rawc_within _ y hy)
      repeat (first | exact sub_empty | refine sub_set (by simp) ?_)
    intro k hk
    by_cases h3 : k < ps.length
    · have okw : ps[k].w.Ok (2 ^ 31) := ⟨(op _ (List.getElem_mem h3)).dn, (op _ (List.getElem_mem h3)).dd, Nat.le_trans (op _ (List.getElem_mem h3)).ln (by omega), Nat.le_trans (op _ (List.getElem_mem h3)).ld (by omega)⟩
      have hst := sumS_take Pr.A h3 i
      by_cases e : Pr.A ps[k] = i
      · rw [if_pos e] at hst
        simp [h3, setOb, List.filter_cons, e]
        refine callK_of (ref02_Add (rawOf_ok (sumS_fitsK (f := Pr.A) op hp i hk)) okw) (by simp [toD_rawc, raw_v]) ?_
        simp [ratV, raw_v, rawOf_q, setOb, List.filter_cons, ← hst]
        rw [wrap64 (by omega) (by omega)]
        refine ⟨k + 1, h3, by dsimp only; omega, ?_⟩
        refine weak_obs ?_ (by simp) (by repeat (first | exact sin_empty | refine sin_set (by simp) ?_)) (by simp; exact fun y hy => rawc_within _ y hy)
        repeat (first | exact sub_empty | refine sub_set (by simp) ?_)
      · rw [if_neg e] at hst
        simp [h3, setOb, List.filter_cons, e]
        rw [wrap64 (by omega) (by omega)]
        refine ⟨k + 1, h3, by dsimp only; omega, ?_⟩
        refine weak_obs ?_ (by simp [hst]) (by repeat (first | exact sin_empty | refine sin_set (by simp) ?_)) (by simp; exact fun y hy => rawc_within _ y hy)
        repeat (first | exact sub_empty | refine sub_set (by simp) ?_)
    · have hkl : k = ps.length := by omega
      subst hkl
      have oi := (oa _ (List.getElem_mem h2)).w
      simp [h3, h2]
      refine callFK_of (ref02_Same (rawOf_ok (sumS_fitsN (f := Pr.A) op hp i)) (y := a[i].w) ⟨oi.dn, oi.dd, Nat.le_trans oi.ln (by omega), Nat.le_trans oi.ld (by omega)⟩) (by simp [toD_rawc, raw_v]) ?_
      rw [rawOf_q, ← wq_eq h2]
      by_cases e : sumS Pr.A ps i = wq a i
      · simp [e]
        rw [wrap64 (by omega) (by omega)]
        refine ⟨i + 1, ⟨h2, fun j hj => ?_⟩, by dsimp only; omega, ?_⟩
        · by_cases e2 : j = i
          · subst e2; exact e
          · exact hs j (by omega)
        · exact weak_p (by repeat (first | exact sub_empty | refine sub_set (by simp) ?_)) (by repeat (first | exact sin_empty | refine sin_set (by simp) ?_))
      · have : (List.range a.length).all (fun i => decide (sumS Pr.A ps i = wq a i)) = false := by
          rw [List.all_eq_false]; exact ⟨i, by simpa using h2, by simp [e]⟩
        simp [e, this]
  have hil : i = a.length := by omega
  subst hil
  have halla : (List.range a.length).all (fun i => decide (sumS Pr.A ps i = wq a i)) = true := by
    rw [List.all_eq_true]; intro j hj; exact decide_eq_true (hs j (by simpa using hj))
  clear hs hi
  simp [h2, halla]
  clear h2
  refine wm_loop (fun g : Nat => (((((Sl.empty.set 134 (.int .i64 g)).set 133 (.int .i64 b.length)).set 2 (prl ps)).set 1 (pl b)), []))
    (fun g => g ≤ b.length ∧ ∀ j, j < g → sumS Pr.B ps j = wq b j) (fun g => b.length - g) 0 ⟨by omega, fun j h => by omega⟩ ?_ ?_
  · exact weak_p (by repeat (first | exact sub_empty | refine sub_set (by simp) ?_)) (by repeat (first | exact sin_empty | refine sin_set (by simp) ?_))
  rintro i ⟨hi, hs⟩
  by_cases h2 : i < b.length
  · simp [h2]
    refine callK_of ref02_Zero (by simp) ?_
    simp [setOb, List.filter_cons, ratV, raw_v]
    refine wm_loop (fun g : Nat => ((((((((((Sl.empty.set 140 (.int .i64 g)).set 139 (.int .i64 ps.length)).set 138 (prl ps)).set 134 (.int .i64 i)).set 133 (.int .i64 b.length)).set 14 (.ptr 0 0 0)).set 13 (.int .i64 i)).set 2 (prl ps)).set 1 (pl b)), [(0, ⟨.own, 3, [(rawOf (sumS Pr.B (ps.take g) i)).c]⟩)]))
      (fun g => g ≤ ps.length) (fun g => ps.length - g) 0 (by omega) ?_ ?_
    · refine weak_obs ?_ (by simp [sumS]) (by repeat (first | exact sin_empty | refine sin_set (by simp) ?_)) (by simp; exact fun y hy => rawc_within _ y hy)
      repeat (first | exact sub_empty | refine sub_set (by simp) ?_)
    intro k hk
    by_cases h3 : k < ps.length
    · have okw : ps[k].w.Ok (2 ^ 31) := ⟨(op _ (List.getElem_mem h3)).dn, (op _ (List.getElem_mem h3)).dd, Nat.le_trans (op _ (List.getElem_mem h3)).ln (by omega), Nat.le_trans (op _ (List.getElem_mem h3)).ld (by omega)⟩
      have hst := sumS_take Pr.B h3 i
      by_cases e : Pr.B ps[k] = i
      · rw [if_pos e] at hst
        simp [h3, setOb, List.filter_cons, e]
        refine callK_of (ref02_Add (rawOf_ok (sumS_fitsK (f := Pr.B) op hp i hk)) okw) (by simp [toD_rawc, raw_v]) ?_
        simp [ratV, raw_v, rawOf_q, setOb, List.filter_cons, ← hst]
        rw [wrap64 (by omega) (by omega)]
        refine ⟨k + 1, h3, by dsimp only; omega, ?_⟩
        refine weak_obs ?_ (by simp) (by repeat (first | exact sin_empty | refine sin_set (by simp) ?_)) (by simp; exact fun y hy => rawc_within _ y hy)
        repeat (first | exact sub_empty | refine sub_set (by simp) ?_)
      · rw [if_neg e] at hst
        simp [h3, setOb, List.filter_cons, e]
        rw [wrap64 (by omega) (by omega)]
        refine ⟨k + 1, h3, by dsimp only; omega, ?_⟩
        refine weak_obs ?_ (by simp [hst]) (by repeat (first | exact sin_empty | refine sin_set (by simp) ?_)) (by simp; exact fun y hy => rawc_within _ y hy)
        repeat (first | exact sub_empty | refine sub_set (by simp) ?_)
    · have hkl : k = ps.length := by omega
      subst hkl
      have oi := (ob _ (List.getElem_mem h2)).w
      simp [h3, h2]
      refine callFK_of (ref02_Same (rawOf_ok (sumS_fitsN (f := Pr.B) op hp i)) (y := b[i].w) ⟨oi.dn, oi.dd, Nat.le_trans oi.ln (by omega), Nat.le_trans oi.ld (by omega)⟩) (by simp [toD_rawc, raw_v]) ?_
      rw [rawOf_q, ← wq_eq h2]
      by_cases e : sumS Pr.B ps i = wq b i
      · simp [e]
        rw [wrap64 (by omega) (by omega)]
        refine ⟨i + 1, ⟨h2, fun j hj => ?_⟩, by dsimp only; omega, ?_⟩
        · by_cases e2 : j = i
          · subst e2; exact e
          · exact hs j (by omega)
        · exact weak_p (by repeat (first | exact sub_empty | refine sub_set (by simp) ?_)) (by repeat (first | exact sin_empty | refine sin_set (by simp) ?_))
      · have : (List.range b.length).all (fun i => decide (sumS Pr.B ps i = wq b i)) = false := by
          rw [List.all_eq_false]; exact ⟨i, by simpa using h2, by simp [e]⟩
        simp [e, this]
  have hil : i = b.length := by omega
  subst hil
  have hallb : (List.range b.length).all (fun i => decide (sumS Pr.B ps i = wq b i)) = true := by
    rw [List.all_eq_true]; intro j hj; exact decide_eq_true (hs j (by simpa using hj))
  clear hs hi
  simp [h2, hallb]
end Go.Proofs.YtnneehniendnfaaGreat
