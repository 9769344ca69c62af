import Derived.Test.YtnneehniendnfaaGreatGC
import Derived.Test.YtnneehniendnfaaGreatProg
import Derived.KernelRfl
/-! Functions of the program, as the engine reads them: written by gen.py out of the engine's own print; each is held against the translation by the kernel. -/
namespace Go.Proofs.YtnneehniendnfaaGreat.F
open Go Go.Proofs Go.Proofs.YtnneehniendnfaaGreat.E
abbrev law35_CoupleRights : Nat := 3
def law35_CoupleRights_c : MFn :=
  ⟨40, (.seq (.region [⟨(some 6), .mv (.c (.bool false)), none⟩] (some [0, 1, 2]))
  (.seq (.seq (.region [⟨(some 7), .mv (.t 0), none⟩,
    ⟨(some 8), .call 12 [(.t 7)], none⟩,
    ⟨(some 9), .un .not (.t 8), none⟩,
    ⟨(some 10), .mv (.t 9), none⟩,
    ⟨(some 11), .mv (.t 1), (some (10, false))⟩,
    ⟨(some 12), .call 12 [(.t 11)], (some (10, false))⟩,
    ⟨(some 13), .un .not (.t 12), (some (10, false))⟩,
    ⟨(some 14), .pick (.t 10) (.c (.bool true)) (.t 13), none⟩,
    ⟨(some 15), .mv (.t 14), none⟩,
    ⟨(some 16), .mv (.t 2), (some (15, false))⟩,
    ⟨(some 17), .call 13 [(.t 16)], (some (15, false))⟩,
    ⟨(some 18), .un .not (.t 17), (some (15, false))⟩,
    ⟨(some 19), .pick (.t 15) (.c (.bool true)) (.t 18), none⟩] (some [0, 1, 2, 19]))
  (.cond (.t 19)
    (.seq (.region [⟨(some 6), .mv (.c (.bool true)), none⟩] (some [6]))
    .ret)
    .skip))
  (.seq (.region [⟨(some 20), .mv (.t 0), none⟩,
    ⟨(some 21), .call 14 [(.t 20)], none⟩,
    ⟨(some 22), .mv (.t 0), none⟩,
    ⟨(some 23), .call 15 [(.t 22)], none⟩,
    ⟨(some 24), .binB .eql (.t 21) (.t 23), none⟩,
    ⟨(some 25), .mv (.t 24), none⟩,
    ⟨(some 26), .mv (.t 0), (some (25, true))⟩,
    ⟨(some 27), .mv (.t 1), (some (25, true))⟩,
    ⟨(some 28), .mv (.t 2), (some (25, true))⟩,
    ⟨(some 29), .call 16 [(.t 26), (.t 27), (.t 28)], (some (25, true))⟩,
    ⟨(some 30), .mv (.t 0), (some (25, true))⟩,
    ⟨(some 31), .mv (.t 1), (some (25, true))⟩,
    ⟨(some 32), .mv (.t 2), (some (25, true))⟩,
    ⟨(some 33), .call 18 [(.t 32)], (some (25, true))⟩,
    ⟨(some 34), .call 17 [(.t 30), (.t 31), (.t 33)], (some (25, true))⟩,
    ⟨(some 35), .binB .eql (.t 29) (.t 34), (some (25, true))⟩,
    ⟨(some 36), .pick (.t 25) (.t 35) (.c (.bool false)), none⟩,
    ⟨(some 37), .mv (.t 36), none⟩,
    ⟨(some 38), .call 19 [], (some (37, true))⟩,
    ⟨(some 39), .pick (.t 37) (.t 38) (.c (.bool false)), none⟩,
    ⟨(some 6), .mv (.t 39), none⟩] (some [6]))
  .ret))), [.t 6]⟩
theorem law35_CoupleRights_ok : cFn Tryz.prog (kps [[0, 1, 2], [0, 1, 2, 19], [6], [6]]) [] 3 = some law35_CoupleRights_c := by kernel_rfl

abbrev law35_CoupleBest : Nat := 4
def law35_CoupleBest_c : MFn :=
  ⟨66, (.seq (.region [⟨(some 4), .mv (.c (.bool false)), none⟩] (some [0, 1]))
  (.seq (.seq (.region [⟨(some 13), .mv (.t 0), none⟩,
    ⟨(some 14), .call 12 [(.t 13)], none⟩,
    ⟨(some 15), .un .not (.t 14), none⟩,
    ⟨(some 16), .mv (.t 15), none⟩,
    ⟨(some 17), .mv (.t 1), (some (16, false))⟩,
    ⟨(some 18), .call 12 [(.t 17)], (some (16, false))⟩,
    ⟨(some 19), .un .not (.t 18), (some (16, false))⟩,
    ⟨(some 20), .pick (.t 16) (.c (.bool true)) (.t 19), none⟩] (some [0, 1, 20]))
  (.cond (.t 20)
    (.seq (.region [⟨(some 4), .mv (.c (.bool true)), none⟩] (some [4]))
    .ret)
    .skip))
  (.seq (.region [⟨(some 22), .mv (.t 0), none⟩,
    ⟨(some 23), .mv (.t 1), none⟩,
    ⟨(some 24), .call 20 [(.t 22), (.t 23)], none⟩,
    ⟨(some 21), .mv (.t 24), none⟩,
    ⟨(some 25), .ext (.t 21) 0, none⟩,
    ⟨(some 26), .ext (.t 21) 1, none⟩,
    ⟨(some 5), .alloc [.bool false, .nils, .nils], none⟩,
    ⟨none, .st 3 (.t 5) (.t 25), none⟩,
    ⟨(some 6), .mv (.t 26), none⟩] (some [0, 1, 5, 6]))
  (.seq (.region [⟨(some 28), .mv (.t 0), none⟩,
    ⟨(some 29), .mv (.t 1), none⟩,
    ⟨(some 30), .call 21 [(.t 28), (.t 29)], none⟩,
    ⟨(some 27), .mv (.t 30), none⟩,
    ⟨(some 31), .ext (.t 27) 0, none⟩,
    ⟨(some 32), .ext (.t 27) 1, none⟩,
    ⟨(some 7), .alloc [.bool false, .nils, .nils], none⟩,
    ⟨none, .st 3 (.t 7) (.t 31), none⟩,
    ⟨(some 8), .mv (.t 32), none⟩] (some [0, 1, 5, 6, 7, 8]))
  (.seq (.region [⟨(some 34), .mv (.t 0), none⟩,
    ⟨(some 35), .mv (.t 1), none⟩,
    ⟨(some 36), .call 22 [(.t 34), (.t 35)], none⟩,
    ⟨(some 33), .mv (.t 36), none⟩,
    ⟨(some 37), .ext (.t 33) 0, none⟩,
    ⟨(some 38), .ext (.t 33) 1, none⟩,
    ⟨(some 9), .mv (.t 37), none⟩,
    ⟨(some 10), .mv (.t 38), none⟩] (some [0, 1, 5, 6, 7, 8, 9, 10]))
  (.seq (.region [⟨(some 40), .mv (.t 0), none⟩,
    ⟨(some 41), .mv (.t 1), none⟩,
    ⟨(some 42), .call 23 [(.t 40), (.t 41)], none⟩,
    ⟨(some 39), .mv (.t 42), none⟩,
    ⟨(some 43), .ext (.t 39) 0, none⟩,
    ⟨(some 44), .ext (.t 39) 1, none⟩,
    ⟨(some 11), .mv (.t 43), none⟩,
    ⟨(some 12), .mv (.t 44), none⟩] (some [5, 6, 7, 8, 9, 10, 11, 12]))
  (.seq (.region [⟨(some 45), .mv (.t 6), none⟩,
    ⟨(some 46), .mv (.t 8), none⟩,
    ⟨(some 47), .bin .eql (.t 45) (.t 46), none⟩,
    ⟨(some 48), .mv (.t 47), none⟩,
    ⟨(some 49), .ld (some 3) (.t 5), (some (48, true))⟩,
    ⟨(some 50), .ld (some 3) (.t 7), (some (48, true))⟩,
    ⟨(some 51), .call 24 [(.t 49), (.t 50)], (some (48, true))⟩,
    ⟨(some 52), .pick (.t 48) (.t 51) (.c (.bool false)), none⟩,
    ⟨(some 53), .mv (.t 52), none⟩,
    ⟨(some 54), .mv (.t 10), (some (53, true))⟩,
    ⟨(some 55), .mv (.t 12), (some (53, true))⟩,
    ⟨(some 56), .bin .eql (.t 54) (.t 55), (some (53, true))⟩,
    ⟨(some 57), .pick (.t 53) (.t 56) (.c (.bool false)), none⟩,
    ⟨(some 58), .mv (.t 57), none⟩,
    ⟨(some 59), .mv (.t 9), (some (58, true))⟩,
    ⟨(some 60), .mv (.t 11), (some (58, true))⟩,
    ⟨(some 61), .call 25 [(.t 59), (.t 60)], (some (58, true))⟩,
    ⟨(some 62), .pick (.t 58) (.t 61) (.c (.bool false)), none⟩,
    ⟨(some 63), .mv (.t 62), none⟩,
    ⟨(some 64), .call 19 [], (some (63, true))⟩,
    ⟨(some 65), .pick (.t 63) (.t 64) (.c (.bool false)), none⟩,
    ⟨(some 4), .mv (.t 65), none⟩] (some [4]))
  .ret))))))), [.t 4]⟩
theorem law35_CoupleBest_ok : cFn Tryz.prog (kps [[0, 1], [0, 1, 20], [4], [0, 1, 5, 6], [0, 1, 5, 6, 7, 8], [0, 1, 5, 6, 7, 8, 9, 10], [5, 6, 7, 8, 9, 10, 11, 12], [4]]) [] 4 = some law35_CoupleBest_c := by kernel_rfl

abbrev law35_CoupleLeast : Nat := 5
def law35_CoupleLeast_c : MFn :=
  ⟨85, (.seq (.region [⟨(some 6), .mv (.c (.bool false)), none⟩] (some [0, 1, 2]))
  (.seq (.seq (.region [⟨(some 11), .mv (.t 0), none⟩,
    ⟨(some 12), .call 12 [(.t 11)], none⟩,
    ⟨(some 13), .un .not (.t 12), none⟩,
    ⟨(some 14), .mv (.t 13), none⟩,
    ⟨(some 15), .mv (.t 1), (some (14, false))⟩,
    ⟨(some 16), .call 12 [(.t 15)], (some (14, false))⟩,
    ⟨(some 17), .un .not (.t 16), (some (14, false))⟩,
    ⟨(some 18), .pick (.t 14) (.c (.bool true)) (.t 17), none⟩,
    ⟨(some 19), .mv (.t 18), none⟩,
    ⟨(some 20), .mv (.t 2), (some (19, false))⟩,
    ⟨(some 21), .call 13 [(.t 20)], (some (19, false))⟩,
    ⟨(some 22), .un .not (.t 21), (some (19, false))⟩,
    ⟨(some 23), .pick (.t 19) (.c (.bool true)) (.t 22), none⟩,
    ⟨(some 24), .mv (.t 23), none⟩,
    ⟨(some 25), .mv (.t 0), (some (24, false))⟩,
    ⟨(some 26), .call 15 [(.t 25)], (some (24, false))⟩,
    ⟨(some 27), .un .not (.t 26), (some (24, false))⟩,
    ⟨(some 28), .pick (.t 24) (.c (.bool true)) (.t 27), none⟩,
    ⟨(some 29), .mv (.t 28), none⟩,
    ⟨(some 30), .mv (.t 1), (some (29, false))⟩,
    ⟨(some 31), .call 15 [(.t 30)], (some (29, false))⟩,
    ⟨(some 32), .un .not (.t 31), (some (29, false))⟩,
    ⟨(some 33), .pick (.t 29) (.c (.bool true)) (.t 32), none⟩] (some [0, 1, 2, 33]))
  (.cond (.t 33)
    (.seq (.region [⟨(some 6), .mv (.c (.bool true)), none⟩] (some [6]))
    .ret)
    .skip))
  (.seq (.region [⟨(some 35), .mv (.t 0), none⟩,
    ⟨(some 36), .mv (.t 1), none⟩,
    ⟨(some 37), .call 20 [(.t 35), (.t 36)], none⟩,
    ⟨(some 34), .mv (.t 37), none⟩,
    ⟨(some 38), .ext (.t 34) 0, none⟩,
    ⟨(some 39), .ext (.t 34) 1, none⟩,
    ⟨(some 7), .alloc [.bool false, .nils, .nils], none⟩,
    ⟨none, .st 3 (.t 7) (.t 38), none⟩,
    ⟨(some 8), .mv (.t 39), none⟩] (some [0, 1, 2, 7, 8]))
  (.seq (.region [⟨(some 41), .mv (.t 0), none⟩,
    ⟨(some 42), .mv (.t 1), none⟩,
    ⟨(some 43), .call 22 [(.t 41), (.t 42)], none⟩,
    ⟨(some 40), .mv (.t 43), none⟩,
    ⟨(some 44), .ext (.t 40) 0, none⟩,
    ⟨(some 45), .ext (.t 40) 1, none⟩,
    ⟨(some 9), .mv (.t 44), none⟩,
    ⟨(some 10), .mv (.t 45), none⟩] (some [0, 1, 2, 7, 8, 9, 10]))
  (.seq (.seq (.region [⟨(some 46), .mv (.t 8), none⟩,
    ⟨(some 47), .bin .neq (.t 46) (.c (.int .i64 0)), none⟩,
    ⟨(some 48), .mv (.t 47), none⟩,
    ⟨(some 49), .mv (.t 10), (some (48, false))⟩,
    ⟨(some 50), .bin .neq (.t 49) (.c (.int .i64 0)), (some (48, false))⟩,
    ⟨(some 51), .pick (.t 48) (.c (.bool true)) (.t 50), none⟩,
    ⟨(some 52), .mv (.t 51), none⟩,
    ⟨(some 53), .mv (.t 0), (some (52, false))⟩,
    ⟨(some 54), .mv (.t 1), (some (52, false))⟩,
    ⟨(some 55), .mv (.t 9), (some (52, false))⟩,
    ⟨(some 56), .callF 16 [(.t 53), (.t 54), (.t 55)], (some (52, false))⟩,
    ⟨(some 57), .un .not (.t 56), (some (52, false))⟩,
    ⟨(some 58), .pick (.t 52) (.c (.bool true)) (.t 57), none⟩,
    ⟨(some 59), .mv (.t 58), none⟩,
    ⟨(some 60), .mv (.t 0), (some (59, false))⟩,
    ⟨(some 61), .mv (.t 1), (some (59, false))⟩,
    ⟨(some 62), .mv (.t 9), (some (59, false))⟩,
    ⟨(some 63), .callF 26 [(.t 60), (.t 61), (.t 62)], (some (59, false))⟩,
    ⟨(some 64), .ld (some 3) (.t 7), (some (59, false))⟩,
    ⟨(some 65), .callF 24 [(.t 63), (.t 64)], (some (59, false))⟩,
    ⟨(some 66), .un .not (.t 65), (some (59, false))⟩,
    ⟨(some 67), .pick (.t 59) (.c (.bool true)) (.t 66), none⟩] (some [0, 1, 2, 7, 67]))
  (.cond (.t 67)
    (.seq (.region [⟨(some 6), .mv (.c (.bool false)), none⟩] (some [6]))
    .ret)
    .skip))
  (.seq (.region [⟨(some 68), .mv (.t 0), none⟩,
    ⟨(some 69), .mv (.t 1), none⟩,
    ⟨(some 70), .mv (.t 2), none⟩,
    ⟨(some 71), .callF 16 [(.t 68), (.t 69), (.t 70)], none⟩,
    ⟨(some 72), .un .not (.t 71), none⟩,
    ⟨(some 73), .mv (.t 72), none⟩,
    ⟨(some 74), .mv (.t 0), (some (73, false))⟩,
    ⟨(some 75), .mv (.t 1), (some (73, false))⟩,
    ⟨(some 76), .mv (.t 2), (some (73, false))⟩,
    ⟨(some 77), .callF 26 [(.t 74), (.t 75), (.t 76)], (some (73, false))⟩,
    ⟨(some 78), .ld (some 3) (.t 7), (some (73, false))⟩,
    ⟨(some 79), .callF 27 [(.t 77), (.t 78)], (some (73, false))⟩,
    ⟨(some 80), .bin .geq (.t 79) (.c (.int .i64 0)), (some (73, false))⟩,
    ⟨(some 81), .pick (.t 73) (.c (.bool true)) (.t 80), none⟩,
    ⟨(some 82), .mv (.t 81), none⟩,
    ⟨(some 83), .callF 19 [], (some (82, true))⟩,
    ⟨(some 84), .pick (.t 82) (.t 83) (.c (.bool false)), none⟩,
    ⟨(some 6), .mv (.t 84), none⟩] (some [6]))
  .ret)))))), [.t 6]⟩
theorem law35_CoupleLeast_ok : cFn Tryz.prog (kps [[0, 1, 2], [0, 1, 2, 33], [6], [0, 1, 2, 7, 8], [0, 1, 2, 7, 8, 9, 10], [0, 1, 2, 7, 67], [6], [6]]) [] 5 = some law35_CoupleLeast_c := by kernel_rfl

abbrev law35_CoupleSets : Nat := 6
def law35_CoupleSets_c : MFn :=
  ⟨97, (.seq (.region [⟨(some 4), .mv (.c (.bool false)), none⟩] (some [0, 1]))
  (.seq (.seq (.region [⟨(some 12), .mv (.t 0), none⟩,
    ⟨(some 13), .call 12 [(.t 12)], none⟩,
    ⟨(some 14), .un .not (.t 13), none⟩,
    ⟨(some 15), .mv (.t 14), none⟩,
    ⟨(some 16), .mv (.t 1), (some (15, false))⟩,
    ⟨(some 17), .call 12 [(.t 16)], (some (15, false))⟩,
    ⟨(some 18), .un .not (.t 17), (some (15, false))⟩,
    ⟨(some 19), .pick (.t 15) (.c (.bool true)) (.t 18), none⟩,
    ⟨(some 20), .mv (.t 19), none⟩,
    ⟨(some 21), .mv (.t 0), (some (20, false))⟩,
    ⟨(some 22), .lenS (.t 21), (some (20, false))⟩,
    ⟨(some 23), .mv (.t 1), (some (20, false))⟩,
    ⟨(some 24), .lenS (.t 23), (some (20, false))⟩,
    ⟨(some 25), .bin .add (.t 22) (.t 24), (some (20, false))⟩,
    ⟨(some 26), .bin .gtr (.t 25) (.c (.int .i64 10)), (some (20, false))⟩,
    ⟨(some 27), .pick (.t 20) (.c (.bool true)) (.t 26), none⟩,
    ⟨(some 28), .mv (.t 27), none⟩,
    ⟨(some 29), .mv (.t 0), (some (28, false))⟩,
    ⟨(some 30), .call 15 [(.t 29)], (some (28, false))⟩,
    ⟨(some 31), .un .not (.t 30), (some (28, false))⟩,
    ⟨(some 32), .pick (.t 28) (.c (.bool true)) (.t 31), none⟩,
    ⟨(some 33), .mv (.t 32), none⟩,
    ⟨(some 34), .mv (.t 1), (some (33, false))⟩,
    ⟨(some 35), .call 15 [(.t 34)], (some (33, false))⟩,
    ⟨(some 36), .un .not (.t 35), (some (33, false))⟩,
    ⟨(some 37), .pick (.t 33) (.c (.bool true)) (.t 36), none⟩] (some [0, 1, 37]))
  (.cond (.t 37)
    (.seq (.region [⟨(some 4), .mv (.c (.bool true)), none⟩] (some [4]))
    .ret)
    .skip))
  (.seq (.region [⟨(some 39), .mv (.t 0), none⟩,
    ⟨(some 40), .mv (.t 1), none⟩,
    ⟨(some 41), .call 20 [(.t 39), (.t 40)], none⟩,
    ⟨(some 38), .mv (.t 41), none⟩,
    ⟨(some 42), .ext (.t 38) 0, none⟩,
    ⟨(some 43), .ext (.t 38) 1, none⟩,
    ⟨(some 5), .alloc [.bool false, .nils, .nils], none⟩,
    ⟨none, .st 3 (.t 5) (.t 42), none⟩,
    ⟨(some 6), .mv (.t 43), none⟩] (some [0, 1, 5, 6]))
  (.seq (.seq (.region [⟨(some 44), .mv (.t 6), none⟩,
    ⟨(some 45), .bin .neq (.t 44) (.c (.int .i64 0)), none⟩] (some [0, 1, 5, 45]))
  (.cond (.t 45)
    (.seq (.region [⟨(some 4), .mv (.c (.bool false)), none⟩] (some [4]))
    .ret)
    .skip))
  (.seq (.region [⟨(some 46), .mv (.t 0), none⟩,
    ⟨(some 47), .mv (.t 1), none⟩,
    ⟨(some 48), .call 28 [(.t 46), (.t 47)], none⟩,
    ⟨(some 7), .mv (.t 48), none⟩] (some [0, 1, 5, 7]))
  (.seq (.region [⟨(some 49), .call 29 [], none⟩,
    ⟨(some 8), .alloc [.bool false, .nils, .nils], none⟩,
    ⟨none, .st 3 (.t 8) (.t 49), none⟩] (some [0, 1, 5, 7, 8]))
  (.seq (.seq (.region [⟨(some 9), .mv (.c (.int .i64 0)), none⟩] (some [0, 1, 5, 7, 8, 9]))
  (.block 0 (.loop (.seq (.seq (.region [⟨(some 50), .mv (.t 9), none⟩,
        ⟨(some 51), .mv (.t 7), none⟩,
        ⟨(some 52), .lenS (.t 51), none⟩,
        ⟨(some 53), .cvt .u64 (.t 52), none⟩,
        ⟨(some 54), .bin .shl (.c (.int .i64 1)) (.t 53), none⟩,
        ⟨(some 55), .bin .lss (.t 50) (.t 54), none⟩] (some [0, 1, 5, 7, 8, 9, 55]))
      (.cond (.t 55)
        .skip
        (.exit 0)))
      (.seq (.block 1 (.seq (.region [⟨(some 58), .call 29 [], none⟩,
          ⟨(some 10), .alloc [.bool false, .nils, .nils], none⟩,
          ⟨none, .st 3 (.t 10) (.t 58), none⟩] (some [0, 1, 5, 7, 8, 9, 10]))
        (.seq (.seq (.region [⟨(some 59), .mv (.t 7), none⟩,
          ⟨(some 60), .lenS (.t 59), none⟩,
          ⟨(some 61), .mv (.c (.int .i64 0)), none⟩] (some [0, 1, 5, 7, 8, 9, 10, 60, 61]))
        (.block 2 (.loop (.seq (.region [⟨(some 62), .bin .lss (.t 61) (.t 60), none⟩] (some [0, 1, 5, 7, 8, 9, 10, 60, 61, 62]))
            (.seq (.cond (.t 62)
              .skip
              (.exit 2))
            (.seq (.block 3 (.seq (.region [⟨(some 63), .mv (.t 61), none⟩,
                ⟨(some 11), .mv (.t 63), none⟩] (some [0, 1, 5, 7, 8, 9, 10, 11, 60, 61]))
              (.seq (.region [⟨(some 64), .mv (.t 9), none⟩,
                ⟨(some 65), .mv (.t 11), none⟩,
                ⟨(some 66), .cvt .u64 (.t 65), none⟩,
                ⟨(some 67), .bin .shr (.t 64) (.t 66), none⟩,
                ⟨(some 68), .bin .and (.t 67) (.c (.int .i64 1)), none⟩,
                ⟨(some 69), .bin .eql (.t 68) (.c (.int .i64 1)), none⟩] (some [0, 1, 5, 7, 8, 9, 10, 11, 60, 61, 69]))
              (.cond (.t 69)
                (.region [⟨(some 70), .ld (some 3) (.t 10), none⟩,
                  ⟨(some 71), .mv (.t 0), none⟩,
                  ⟨(some 72), .mv (.t 7), none⟩,
                  ⟨(some 73), .mv (.t 11), none⟩,
                  ⟨(some 74), .ixA 3 (.t 72) (.t 73), none⟩,
                  ⟨(some 75), .ld (some 3) (.t 74), none⟩,
                  ⟨(some 76), .callF 32 [(.t 71), (.t 75)], none⟩,
                  ⟨(some 77), .mv (.t 1), none⟩,
                  ⟨(some 78), .mv (.t 7), none⟩,
                  ⟨(some 79), .mv (.t 11), none⟩,
                  ⟨(some 80), .ixA 3 (.t 78) (.t 79), none⟩,
                  ⟨(some 81), .ld (some 3) (.t 80), none⟩,
                  ⟨(some 82), .callF 32 [(.t 77), (.t 81)], none⟩,
                  ⟨(some 83), .callF 31 [(.t 76), (.t 82)], none⟩,
                  ⟨(some 84), .callF 30 [(.t 70), (.t 83)], none⟩,
                  ⟨none, .st 3 (.t 10) (.t 84), none⟩] (some [0, 1, 5, 7, 8, 9, 10, 60, 61]))
                .skip))))
            (.region [⟨(some 85), .bin .add (.t 61) (.c (.int .i64 1)), none⟩,
              ⟨(some 61), .mv (.t 85), none⟩] (some [0, 1, 5, 7, 8, 9, 10, 60, 61]))))))))
        (.seq (.region [⟨(some 86), .ld (some 3) (.t 10), none⟩,
          ⟨(some 87), .ld (some 3) (.t 8), none⟩,
          ⟨(some 88), .call 27 [(.t 86), (.t 87)], none⟩,
          ⟨(some 89), .bin .gtr (.t 88) (.c (.int .i64 0)), none⟩] (some [0, 1, 5, 7, 8, 9, 10, 89]))
        (.cond (.t 89)
          (.region [⟨(some 90), .ld (some 3) (.t 10), none⟩,
            ⟨none, .st 3 (.t 8) (.t 90), none⟩] (some [0, 1, 5, 7, 8, 9]))
          .skip)))))
      (.region [⟨(some 56), .mv (.t 9), none⟩,
        ⟨(some 57), .bin .add (.t 56) (.c (.int .i64 1)), none⟩,
        ⟨(some 9), .mv (.t 57), none⟩] (some [0, 1, 5, 7, 8, 9])))))))
  (.seq (.region [⟨(some 91), .ld (some 3) (.t 5), none⟩,
    ⟨(some 92), .ld (some 3) (.t 8), none⟩,
    ⟨(some 93), .call 24 [(.t 91), (.t 92)], none⟩,
    ⟨(some 94), .mv (.t 93), none⟩,
    ⟨(some 95), .call 19 [], (some (94, true))⟩,
    ⟨(some 96), .pick (.t 94) (.t 95) (.c (.bool false)), none⟩,
    ⟨(some 4), .mv (.t 96), none⟩] (some [4]))
  .ret)))))))), [.t 4]⟩
theorem law35_CoupleSets_ok : cFn Tryz.prog (kps [[0, 1], [0, 1, 37], [4], [0, 1, 5, 6], [0, 1, 5, 45], [4], [0, 1, 5, 7], [0, 1, 5, 7, 8], [0, 1, 5, 7, 8, 9], [0, 1, 5, 7, 8, 9, 55], [0, 1, 5, 7, 8, 9], [0, 1, 5, 7, 8, 9, 10], [0, 1, 5, 7, 8, 9, 10, 60, 61], [0, 1, 5, 7, 8, 9, 10, 60, 61, 62], [0, 1, 5, 7, 8, 9, 10, 11, 60, 61], [0, 1, 5, 7, 8, 9, 10, 11, 60, 61, 69], [0, 1, 5, 7, 8, 9, 10, 60, 61], [0, 1, 5, 7, 8, 9, 10, 60, 61], [0, 1, 5, 7, 8, 9, 10, 89], [0, 1, 5, 7, 8, 9], [4]]) [] 6 = some law35_CoupleSets_c := by kernel_rfl

abbrev law35_CoupleBlocks : Nat := 7
def law35_CoupleBlocks_c : MFn :=
  ⟨45, (.seq (.region [⟨(some 5), .box (.t 2), none⟩,
    ⟨(some 6), .mv (.c (.bool false)), none⟩] (some [0, 1, 5]))
  (.seq (.region [⟨(some 9), .fA 0 (.t 5), none⟩,
    ⟨(some 10), .ld none (.t 9), none⟩,
    ⟨(some 11), .fA 1 (.t 5), none⟩,
    ⟨(some 12), .ld none (.t 11), none⟩,
    ⟨(some 7), .mv (.t 10), none⟩,
    ⟨(some 8), .mv (.t 12), none⟩] (some [0, 1, 7, 8]))
  (.seq (.seq (.region [⟨(some 13), .mv (.t 0), none⟩,
    ⟨(some 14), .call 12 [(.t 13)], none⟩,
    ⟨(some 15), .un .not (.t 14), none⟩,
    ⟨(some 16), .mv (.t 15), none⟩,
    ⟨(some 17), .mv (.t 1), (some (16, false))⟩,
    ⟨(some 18), .call 12 [(.t 17)], (some (16, false))⟩,
    ⟨(some 19), .un .not (.t 18), (some (16, false))⟩,
    ⟨(some 20), .pick (.t 16) (.c (.bool true)) (.t 19), none⟩,
    ⟨(some 21), .mv (.t 20), none⟩,
    ⟨(some 22), .mv (.t 7), (some (21, false))⟩,
    ⟨(some 23), .lenS (.t 22), (some (21, false))⟩,
    ⟨(some 24), .bin .gtr (.t 23) (.c (.int .i64 120)), (some (21, false))⟩,
    ⟨(some 25), .pick (.t 21) (.c (.bool true)) (.t 24), none⟩,
    ⟨(some 26), .mv (.t 25), none⟩,
    ⟨(some 27), .mv (.t 8), (some (26, false))⟩,
    ⟨(some 28), .lenS (.t 27), (some (26, false))⟩,
    ⟨(some 29), .bin .gtr (.t 28) (.c (.int .i64 20)), (some (26, false))⟩,
    ⟨(some 30), .pick (.t 26) (.c (.bool true)) (.t 29), none⟩] (some [0, 1, 7, 8, 30]))
  (.cond (.t 30)
    (.seq (.region [⟨(some 6), .mv (.c (.bool true)), none⟩] (some [6]))
    .ret)
    .skip))
  (.seq (.region [⟨(some 31), .mv (.t 0), none⟩,
    ⟨(some 32), .mv (.t 1), none⟩,
    ⟨(some 33), .mv (.t 7), none⟩,
    ⟨(some 34), .mv (.t 8), none⟩,
    ⟨(some 35), .call 33 [(.t 31), (.t 32), (.t 33), (.t 34)], none⟩,
    ⟨(some 36), .mv (.t 0), none⟩,
    ⟨(some 37), .mv (.t 1), none⟩,
    ⟨(some 38), .mv (.t 7), none⟩,
    ⟨(some 39), .mv (.t 8), none⟩,
    ⟨(some 40), .call 34 [(.t 36), (.t 37), (.t 38), (.t 39)], none⟩,
    ⟨(some 41), .binB .eql (.t 35) (.t 40), none⟩,
    ⟨(some 42), .mv (.t 41), none⟩,
    ⟨(some 43), .call 19 [], (some (42, true))⟩,
    ⟨(some 44), .pick (.t 42) (.t 43) (.c (.bool false)), none⟩,
    ⟨(some 6), .mv (.t 44), none⟩] (some [6]))
  .ret)))), [.t 6]⟩
theorem law35_CoupleBlocks_ok : cFn Tryz.prog (kps [[0, 1, 5], [0, 1, 7, 8], [0, 1, 7, 8, 30], [6], [6]]) [] 7 = some law35_CoupleBlocks_c := by kernel_rfl

abbrev law35_CoupleBelow : Nat := 8
def law35_CoupleBelow_c : MFn :=
  ⟨49, (.seq (.region [⟨(some 4), .mv (.c (.bool false)), none⟩] (some [0, 1]))
  (.seq (.seq (.region [⟨(some 11), .mv (.t 0), none⟩,
    ⟨(some 12), .call 12 [(.t 11)], none⟩,
    ⟨(some 13), .un .not (.t 12), none⟩,
    ⟨(some 14), .mv (.t 13), none⟩,
    ⟨(some 15), .mv (.t 1), (some (14, false))⟩,
    ⟨(some 16), .call 12 [(.t 15)], (some (14, false))⟩,
    ⟨(some 17), .un .not (.t 16), (some (14, false))⟩,
    ⟨(some 18), .pick (.t 14) (.c (.bool true)) (.t 17), none⟩] (some [0, 1, 18]))
  (.cond (.t 18)
    (.seq (.region [⟨(some 4), .mv (.c (.bool true)), none⟩] (some [4]))
    .ret)
    .skip))
  (.seq (.region [⟨(some 20), .mv (.t 0), none⟩,
    ⟨(some 21), .mv (.t 1), none⟩,
    ⟨(some 22), .call 35 [(.t 20), (.t 21)], none⟩,
    ⟨(some 19), .mv (.t 22), none⟩,
    ⟨(some 23), .ext (.t 19) 0, none⟩,
    ⟨(some 24), .ext (.t 19) 1, none⟩,
    ⟨(some 25), .ext (.t 19) 2, none⟩,
    ⟨(some 5), .mv (.t 23), none⟩,
    ⟨(some 6), .mv (.t 24), none⟩,
    ⟨(some 7), .mv (.t 25), none⟩] (some [0, 1, 5, 6, 7]))
  (.seq (.region [⟨(some 27), .mv (.t 0), none⟩,
    ⟨(some 28), .mv (.t 1), none⟩,
    ⟨(some 29), .call 36 [(.t 27), (.t 28)], none⟩,
    ⟨(some 26), .mv (.t 29), none⟩,
    ⟨(some 30), .ext (.t 26) 0, none⟩,
    ⟨(some 31), .ext (.t 26) 1, none⟩,
    ⟨(some 32), .ext (.t 26) 2, none⟩,
    ⟨(some 8), .mv (.t 30), none⟩,
    ⟨(some 9), .mv (.t 31), none⟩,
    ⟨(some 10), .mv (.t 32), none⟩] (some [5, 6, 7, 8, 9, 10]))
  (.seq (.region [⟨(some 33), .mv (.t 7), none⟩,
    ⟨(some 34), .mv (.t 10), none⟩,
    ⟨(some 35), .bin .eql (.t 33) (.t 34), none⟩,
    ⟨(some 36), .mv (.t 35), none⟩,
    ⟨(some 37), .mv (.t 6), (some (36, true))⟩,
    ⟨(some 38), .mv (.t 9), (some (36, true))⟩,
    ⟨(some 39), .bin .eql (.t 37) (.t 38), (some (36, true))⟩,
    ⟨(some 40), .pick (.t 36) (.t 39) (.c (.bool false)), none⟩,
    ⟨(some 41), .mv (.t 40), none⟩,
    ⟨(some 42), .mv (.t 5), (some (41, true))⟩,
    ⟨(some 43), .mv (.t 8), (some (41, true))⟩,
    ⟨(some 44), .call 25 [(.t 42), (.t 43)], (some (41, true))⟩,
    ⟨(some 45), .pick (.t 41) (.t 44) (.c (.bool false)), none⟩,
    ⟨(some 46), .mv (.t 45), none⟩,
    ⟨(some 47), .call 19 [], (some (46, true))⟩,
    ⟨(some 48), .pick (.t 46) (.t 47) (.c (.bool false)), none⟩,
    ⟨(some 4), .mv (.t 48), none⟩] (some [4]))
  .ret))))), [.t 4]⟩
theorem law35_CoupleBelow_ok : cFn Tryz.prog (kps [[0, 1], [0, 1, 18], [4], [0, 1, 5, 6, 7], [5, 6, 7, 8, 9, 10], [4]]) [] 8 = some law35_CoupleBelow_c := by kernel_rfl

abbrev law35_CoupleOrder : Nat := 9
def law35_CoupleOrder_c : MFn :=
  ⟨138, (.seq (.region [⟨(some 4), .mv (.c (.bool false)), none⟩] (some [0, 1]))
  (.seq (.seq (.region [⟨(some 13), .mv (.t 0), none⟩,
    ⟨(some 14), .call 12 [(.t 13)], none⟩,
    ⟨(some 15), .un .not (.t 14), none⟩,
    ⟨(some 16), .mv (.t 15), none⟩,
    ⟨(some 17), .mv (.t 1), (some (16, false))⟩,
    ⟨(some 18), .call 12 [(.t 17)], (some (16, false))⟩,
    ⟨(some 19), .un .not (.t 18), (some (16, false))⟩,
    ⟨(some 20), .pick (.t 16) (.c (.bool true)) (.t 19), none⟩,
    ⟨(some 21), .mv (.t 20), none⟩,
    ⟨(some 22), .mv (.t 0), (some (21, false))⟩,
    ⟨(some 23), .call 15 [(.t 22)], (some (21, false))⟩,
    ⟨(some 24), .un .not (.t 23), (some (21, false))⟩,
    ⟨(some 25), .pick (.t 21) (.c (.bool true)) (.t 24), none⟩,
    ⟨(some 26), .mv (.t 25), none⟩,
    ⟨(some 27), .mv (.t 1), (some (26, false))⟩,
    ⟨(some 28), .call 15 [(.t 27)], (some (26, false))⟩,
    ⟨(some 29), .un .not (.t 28), (some (26, false))⟩,
    ⟨(some 30), .pick (.t 26) (.c (.bool true)) (.t 29), none⟩] (some [0, 1, 30]))
  (.cond (.t 30)
    (.seq (.region [⟨(some 4), .mv (.c (.bool true)), none⟩] (some [4]))
    .ret)
    .skip))
  (.seq (.region [⟨(some 31), .mv (.t 0), none⟩,
    ⟨(some 32), .mv (.t 1), none⟩,
    ⟨(some 33), .call 28 [(.t 31), (.t 32)], none⟩,
    ⟨(some 5), .mv (.t 33), none⟩] (some [0, 1, 5]))
  (.seq (.seq (.region [⟨(some 34), .mv (.t 5), none⟩,
    ⟨(some 35), .lenS (.t 34), none⟩,
    ⟨(some 36), .mv (.c (.int .i64 0)), none⟩] (some [0, 1, 5, 35, 36]))
  (.block 0 (.loop (.seq (.region [⟨(some 37), .bin .lss (.t 36) (.t 35), none⟩] (some [0, 1, 5, 35, 36, 37]))
      (.seq (.cond (.t 37)
        .skip
        (.exit 0))
      (.seq (.block 1 (.seq (.region [⟨(some 38), .mv (.t 36), none⟩,
          ⟨(some 6), .mv (.t 38), none⟩] (some [0, 1, 5, 6, 35, 36]))
        (.seq (.region [⟨(some 39), .mv (.t 5), none⟩,
          ⟨(some 40), .mv (.t 6), none⟩,
          ⟨(some 41), .ixA 3 (.t 39) (.t 40), none⟩,
          ⟨(some 42), .fA 0 (.t 41), none⟩,
          ⟨(some 43), .ld none (.t 42), none⟩,
          ⟨(some 44), .bin .neq (.t 43) (.c (.int .i64 2)), none⟩] (some [0, 1, 5, 35, 36, 44]))
        (.cond (.t 44)
          (.seq (.region [⟨(some 4), .mv (.c (.bool true)), none⟩] (some [4]))
          .ret)
          .skip))))
      (.region [⟨(some 45), .bin .add (.t 36) (.c (.int .i64 1)), none⟩,
        ⟨(some 36), .mv (.t 45), none⟩] (some [0, 1, 5, 35, 36]))))))))
  (.seq (.region [⟨(some 7), .mv (.c (.bool true)), none⟩] (some [0, 1, 5, 7]))
  (.seq (.seq (.region [⟨(some 46), .mv (.t 5), none⟩,
    ⟨(some 47), .lenS (.t 46), none⟩,
    ⟨(some 48), .mv (.c (.int .i64 0)), none⟩] (some [0, 1, 5, 7, 47, 48]))
  (.block 2 (.loop (.seq (.region [⟨(some 49), .bin .lss (.t 48) (.t 47), none⟩] (some [0, 1, 5, 7, 47, 48, 49]))
      (.seq (.cond (.t 49)
        .skip
        (.exit 2))
      (.seq (.block 3 (.seq (.region [⟨(some 50), .mv (.t 48), none⟩,
          ⟨(some 8), .mv (.t 50), none⟩] (some [0, 1, 5, 7, 8, 47, 48]))
        (.region [⟨(some 51), .mv (.t 7), none⟩,
          ⟨(some 52), .mv (.t 51), none⟩,
          ⟨(some 53), .mv (.t 0), (some (52, true))⟩,
          ⟨(some 54), .mv (.t 5), (some (52, true))⟩,
          ⟨(some 55), .mv (.t 8), (some (52, true))⟩,
          ⟨(some 56), .ixA 3 (.t 54) (.t 55), (some (52, true))⟩,
          ⟨(some 57), .fA 1 (.t 56), (some (52, true))⟩,
          ⟨(some 58), .ld none (.t 57), (some (52, true))⟩,
          ⟨(some 59), .callF 37 [(.t 53), (.t 58)], (some (52, true))⟩,
          ⟨(some 60), .mv (.t 1), (some (52, true))⟩,
          ⟨(some 61), .mv (.t 5), (some (52, true))⟩,
          ⟨(some 62), .mv (.t 8), (some (52, true))⟩,
          ⟨(some 63), .ixA 3 (.t 61) (.t 62), (some (52, true))⟩,
          ⟨(some 64), .fA 1 (.t 63), (some (52, true))⟩,
          ⟨(some 65), .ld none (.t 64), (some (52, true))⟩,
          ⟨(some 66), .callF 37 [(.t 60), (.t 65)], (some (52, true))⟩,
          ⟨(some 67), .callF 27 [(.t 59), (.t 66)], (some (52, true))⟩,
          ⟨(some 68), .bin .geq (.t 67) (.c (.int .i64 0)), (some (52, true))⟩,
          ⟨(some 69), .pick (.t 52) (.t 68) (.c (.bool false)), none⟩,
          ⟨(some 7), .mv (.t 69), none⟩] (some [0, 1, 5, 7, 47, 48]))))
      (.region [⟨(some 70), .bin .add (.t 48) (.c (.int .i64 1)), none⟩,
        ⟨(some 48), .mv (.t 70), none⟩] (some [0, 1, 5, 7, 47, 48]))))))))
  (.seq (.region [⟨(some 72), .mv (.t 0), none⟩,
    ⟨(some 73), .mv (.t 1), none⟩,
    ⟨(some 74), .call 35 [(.t 72), (.t 73)], none⟩,
    ⟨(some 71), .mv (.t 74), none⟩,
    ⟨(some 75), .ext (.t 71) 0, none⟩,
    ⟨(some 76), .ext (.t 71) 1, none⟩,
    ⟨(some 77), .ext (.t 71) 2, none⟩,
    ⟨(some 9), .mv (.t 75), none⟩,
    ⟨(some 10), .mv (.t 76), none⟩,
    ⟨(some 11), .mv (.t 77), none⟩] (some [0, 1, 7, 9, 10, 11]))
  (.seq (.seq (.region [⟨(some 78), .mv (.t 11), none⟩,
    ⟨(some 79), .bin .neq (.t 78) (.c (.int .i64 0)), none⟩,
    ⟨(some 80), .mv (.t 79), none⟩,
    ⟨(some 81), .mv (.t 7), (some (80, false))⟩,
    ⟨(some 82), .mv (.t 10), (some (80, false))⟩,
    ⟨(some 83), .bin .eql (.t 82) (.c (.int .i64 (-1))), (some (80, false))⟩,
    ⟨(some 84), .binB .neq (.t 81) (.t 83), (some (80, false))⟩,
    ⟨(some 85), .pick (.t 80) (.c (.bool true)) (.t 84), none⟩] (some [0, 1, 7, 9, 10, 85]))
  (.cond (.t 85)
    (.seq (.region [⟨(some 4), .mv (.c (.bool false)), none⟩] (some [4]))
    .ret)
    .skip))
  (.seq (.seq (.region [⟨(some 86), .mv (.t 7), none⟩,
    ⟨(some 87), .un .not (.t 86), none⟩] (some [0, 1, 9, 10, 87]))
  (.cond (.t 87)
    (.seq (.region [⟨(some 88), .mv (.t 9), none⟩,
      ⟨(some 89), .lenS (.t 88), none⟩,
      ⟨(some 90), .bin .eql (.t 89) (.c (.int .i64 0)), none⟩,
      ⟨(some 91), .mv (.t 90), none⟩,
      ⟨(some 92), .mv (.t 10), (some (91, true))⟩,
      ⟨(some 93), .bin .geq (.t 92) (.c (.int .i64 0)), (some (91, true))⟩,
      ⟨(some 94), .pick (.t 91) (.t 93) (.c (.bool false)), none⟩,
      ⟨(some 95), .mv (.t 94), none⟩,
      ⟨(some 96), .mv (.t 10), (some (95, true))⟩,
      ⟨(some 97), .mv (.t 1), (some (95, true))⟩,
      ⟨(some 98), .lenS (.t 97), (some (95, true))⟩,
      ⟨(some 99), .bin .lss (.t 96) (.t 98), (some (95, true))⟩,
      ⟨(some 100), .pick (.t 95) (.t 99) (.c (.bool false)), none⟩,
      ⟨(some 101), .mv (.t 100), none⟩,
      ⟨(some 102), .call 19 [], (some (101, true))⟩,
      ⟨(some 103), .pick (.t 101) (.t 102) (.c (.bool false)), none⟩,
      ⟨(some 4), .mv (.t 103), none⟩] (some [4]))
    .ret)
    .skip))
  (.seq (.seq (.region [⟨(some 104), .mv (.t 9), none⟩,
    ⟨(some 105), .lenS (.t 104), none⟩,
    ⟨(some 106), .mv (.c (.int .i64 0)), none⟩] (some [0, 1, 9, 105, 106]))
  (.block 4 (.loop (.seq (.region [⟨(some 107), .bin .lss (.t 106) (.t 105), none⟩] (some [0, 1, 9, 105, 106, 107]))
      (.seq (.cond (.t 107)
        .skip
        (.exit 4))
      (.seq (.block 5 (.seq (.region [⟨(some 108), .mv (.t 106), none⟩,
          ⟨(some 12), .mv (.t 108), none⟩] (some [0, 1, 9, 12, 105, 106]))
        (.seq (.region [⟨(some 109), .mv (.t 0), none⟩,
          ⟨(some 110), .mv (.t 9), none⟩,
          ⟨(some 111), .mv (.t 12), none⟩,
          ⟨(some 112), .ixA 5 (.t 110) (.t 111), none⟩,
          ⟨(some 113), .fA 0 (.t 112), none⟩,
          ⟨(some 114), .ld none (.t 113), none⟩,
          ⟨(some 115), .ixA 6 (.t 109) (.t 114), none⟩,
          ⟨(some 116), .fA 0 (.t 115), none⟩,
          ⟨(some 117), .fA 1 (.t 116), none⟩,
          ⟨(some 118), .ld none (.t 117), none⟩,
          ⟨(some 119), .mv (.t 1), none⟩,
          ⟨(some 120), .mv (.t 9), none⟩,
          ⟨(some 121), .mv (.t 12), none⟩,
          ⟨(some 122), .ixA 5 (.t 120) (.t 121), none⟩,
          ⟨(some 123), .fA 1 (.t 122), none⟩,
          ⟨(some 124), .ld none (.t 123), none⟩,
          ⟨(some 125), .ixA 6 (.t 119) (.t 124), none⟩,
          ⟨(some 126), .fA 0 (.t 125), none⟩,
          ⟨(some 127), .fA 1 (.t 126), none⟩,
          ⟨(some 128), .ld none (.t 127), none⟩,
          ⟨(some 129), .bin .gtr (.t 118) (.t 128), none⟩] (some [0, 1, 9, 105, 106, 129]))
        (.cond (.t 129)
          (.seq (.region [⟨(some 4), .mv (.c (.bool false)), none⟩] (some [4]))
          .ret)
          .skip))))
      (.region [⟨(some 130), .bin .add (.t 106) (.c (.int .i64 1)), none⟩,
        ⟨(some 106), .mv (.t 130), none⟩] (some [0, 1, 9, 105, 106]))))))))
  (.seq (.region [⟨(some 131), .mv (.t 0), none⟩,
    ⟨(some 132), .mv (.t 1), none⟩,
    ⟨(some 133), .mv (.t 9), none⟩,
    ⟨(some 134), .call 16 [(.t 131), (.t 132), (.t 133)], none⟩,
    ⟨(some 135), .mv (.t 134), none⟩,
    ⟨(some 136), .call 19 [], (some (135, true))⟩,
    ⟨(some 137), .pick (.t 135) (.t 136) (.c (.bool false)), none⟩,
    ⟨(some 4), .mv (.t 137), none⟩] (some [4]))
  .ret))))))))))), [.t 4]⟩
theorem law35_CoupleOrder_ok : cFn Tryz.prog (kps [[0, 1], [0, 1, 30], [4], [0, 1, 5], [0, 1, 5, 35, 36], [0, 1, 5, 35, 36, 37], [0, 1, 5, 6, 35, 36], [0, 1, 5, 35, 36, 44], [4], [0, 1, 5, 35, 36], [0, 1, 5, 7], [0, 1, 5, 7, 47, 48], [0, 1, 5, 7, 47, 48, 49], [0, 1, 5, 7, 8, 47, 48], [0, 1, 5, 7, 47, 48], [0, 1, 5, 7, 47, 48], [0, 1, 7, 9, 10, 11], [0, 1, 7, 9, 10, 85], [4], [0, 1, 9, 10, 87], [4], [0, 1, 9, 105, 106], [0, 1, 9, 105, 106, 107], [0, 1, 9, 12, 105, 106], [0, 1, 9, 105, 106, 129], [4], [0, 1, 9, 105, 106], [4]]) [] 9 = some law35_CoupleOrder_c := by kernel_rfl

abbrev law35_CoupleEither : Nat := 11
def law35_CoupleEither_c : MFn :=
  ⟨107, (.seq (.region [⟨(some 5), .box (.t 2), none⟩,
    ⟨(some 6), .mv (.c (.bool false)), none⟩] (some [0, 1, 5]))
  (.seq (.region [⟨(some 15), .fA 2 (.t 5), none⟩,
    ⟨(some 16), .ld none (.t 15), none⟩,
    ⟨(some 17), .fA 0 (.t 5), none⟩,
    ⟨(some 18), .ld none (.t 17), none⟩,
    ⟨(some 19), .fA 1 (.t 5), none⟩,
    ⟨(some 20), .ld none (.t 19), none⟩,
    ⟨(some 7), .mv (.t 16), none⟩,
    ⟨(some 8), .mv (.t 18), none⟩,
    ⟨(some 9), .mv (.t 20), none⟩] (some [0, 1, 7, 8, 9]))
  (.seq (.seq (.region [⟨(some 21), .mv (.t 0), none⟩,
    ⟨(some 22), .call 12 [(.t 21)], none⟩,
    ⟨(some 23), .un .not (.t 22), none⟩,
    ⟨(some 24), .mv (.t 23), none⟩,
    ⟨(some 25), .mv (.t 1), (some (24, false))⟩,
    ⟨(some 26), .call 12 [(.t 25)], (some (24, false))⟩,
    ⟨(some 27), .un .not (.t 26), (some (24, false))⟩,
    ⟨(some 28), .pick (.t 24) (.c (.bool true)) (.t 27), none⟩,
    ⟨(some 29), .mv (.t 28), none⟩,
    ⟨(some 30), .mv (.t 7), (some (29, false))⟩,
    ⟨(some 31), .call 13 [(.t 30)], (some (29, false))⟩,
    ⟨(some 32), .un .not (.t 31), (some (29, false))⟩,
    ⟨(some 33), .pick (.t 29) (.c (.bool true)) (.t 32), none⟩,
    ⟨(some 34), .mv (.t 33), none⟩,
    ⟨(some 35), .mv (.t 8), (some (34, false))⟩,
    ⟨(some 36), .lenS (.t 35), (some (34, false))⟩,
    ⟨(some 37), .bin .gtr (.t 36) (.c (.int .i64 120)), (some (34, false))⟩,
    ⟨(some 38), .pick (.t 34) (.c (.bool true)) (.t 37), none⟩,
    ⟨(some 39), .mv (.t 38), none⟩,
    ⟨(some 40), .mv (.t 9), (some (39, false))⟩,
    ⟨(some 41), .lenS (.t 40), (some (39, false))⟩,
    ⟨(some 42), .bin .gtr (.t 41) (.c (.int .i64 20)), (some (39, false))⟩,
    ⟨(some 43), .pick (.t 39) (.c (.bool true)) (.t 42), none⟩,
    ⟨(some 44), .mv (.t 43), none⟩,
    ⟨(some 45), .mv (.t 0), (some (44, false))⟩,
    ⟨(some 46), .mv (.t 1), (some (44, false))⟩,
    ⟨(some 47), .mv (.t 7), (some (44, false))⟩,
    ⟨(some 48), .call 16 [(.t 45), (.t 46), (.t 47)], (some (44, false))⟩,
    ⟨(some 49), .un .not (.t 48), (some (44, false))⟩,
    ⟨(some 50), .pick (.t 44) (.c (.bool true)) (.t 49), none⟩] (some [0, 1, 7, 8, 9, 50]))
  (.cond (.t 50)
    (.seq (.region [⟨(some 51), .call 19 [], none⟩,
      ⟨(some 6), .mv (.t 51), none⟩] (some [6]))
    .ret)
    .skip))
  (.seq (.region [⟨(some 52), .buildSl 2 0 [.int .i64 0, .int .i64 0] [], none⟩,
    ⟨(some 53), .mv (.t 8), none⟩,
    ⟨(some 54), .app 2 16 (.t 52) (.t 53), none⟩,
    ⟨(some 10), .mv (.t 54), none⟩] (some [0, 1, 7, 9, 10]))
  (.seq (.seq (.region [⟨(some 55), .mv (.t 7), none⟩,
    ⟨(some 56), .lenS (.t 55), none⟩,
    ⟨(some 57), .mv (.c (.int .i64 0)), none⟩] (some [0, 1, 7, 9, 10, 56, 57]))
  (.block 0 (.loop (.seq (.region [⟨(some 58), .bin .lss (.t 57) (.t 56), none⟩] (some [0, 1, 7, 9, 10, 56, 57, 58]))
      (.seq (.cond (.t 58)
        .skip
        (.exit 0))
      (.seq (.block 1 (.seq (.region [⟨(some 59), .mv (.t 57), none⟩,
          ⟨(some 11), .mv (.t 59), none⟩] (some [0, 1, 7, 9, 10, 11, 56, 57]))
        (.region [⟨(some 60), .mv (.t 10), none⟩,
          ⟨(some 61), .mv (.t 7), none⟩,
          ⟨(some 62), .mv (.t 11), none⟩,
          ⟨(some 63), .ixA 5 (.t 61) (.t 62), none⟩,
          ⟨(some 64), .fA 0 (.t 63), none⟩,
          ⟨(some 65), .ld none (.t 64), none⟩,
          ⟨(some 66), .mv (.t 7), none⟩,
          ⟨(some 67), .mv (.t 11), none⟩,
          ⟨(some 68), .ixA 5 (.t 66) (.t 67), none⟩,
          ⟨(some 69), .fA 1 (.t 68), none⟩,
          ⟨(some 70), .ld none (.t 69), none⟩,
          ⟨(some 71), .build [.int .i64 0, .int .i64 0] [(0, 1, (.t 65)), (1, 1, (.t 70))], none⟩,
          ⟨(some 72), .buildSl 2 1 [.int .i64 0, .int .i64 0] [(0, (.t 71))], none⟩,
          ⟨(some 73), .app 2 16 (.t 60) (.t 72), none⟩,
          ⟨(some 10), .mv (.t 73), none⟩] (some [0, 1, 7, 9, 10, 56, 57]))))
      (.region [⟨(some 74), .bin .add (.t 57) (.c (.int .i64 1)), none⟩,
        ⟨(some 57), .mv (.t 74), none⟩] (some [0, 1, 7, 9, 10, 56, 57]))))))))
  (.seq (.region [⟨(some 76), .mv (.t 0), none⟩,
    ⟨(some 77), .mv (.t 1), none⟩,
    ⟨(some 78), .mv (.t 10), none⟩,
    ⟨(some 79), .call 38 [(.t 76), (.t 77), (.t 78)], none⟩,
    ⟨(some 75), .mv (.t 79), none⟩,
    ⟨(some 80), .ext (.t 75) 0, none⟩,
    ⟨(some 81), .ext (.t 75) 1, none⟩,
    ⟨(some 82), .ext (.t 75) 2, none⟩,
    ⟨(some 12), .mv (.t 80), none⟩,
    ⟨(some 13), .mv (.t 81), none⟩,
    ⟨(some 14), .mv (.t 82), none⟩] (some [0, 1, 9, 10, 12, 13, 14]))
  (.seq (.region [⟨(some 83), .mv (.t 14), none⟩,
    ⟨(some 84), .bin .eql (.t 83) (.c (.int .i64 0)), none⟩,
    ⟨(some 85), .mv (.t 84), none⟩,
    ⟨(some 86), .mv (.t 13), (some (85, true))⟩,
    ⟨(some 87), .lenS (.t 86), (some (85, true))⟩,
    ⟨(some 88), .bin .eql (.t 87) (.c (.int .i64 0)), (some (85, true))⟩,
    ⟨(some 89), .pick (.t 85) (.t 88) (.c (.bool false)), none⟩,
    ⟨(some 90), .mv (.t 89), none⟩,
    ⟨(some 91), .mv (.t 0), (some (90, true))⟩,
    ⟨(some 92), .mv (.t 1), (some (90, true))⟩,
    ⟨(some 93), .mv (.t 12), (some (90, true))⟩,
    ⟨(some 94), .call 16 [(.t 91), (.t 92), (.t 93)], (some (90, true))⟩,
    ⟨(some 95), .pick (.t 90) (.t 94) (.c (.bool false)), none⟩,
    ⟨(some 96), .mv (.t 95), none⟩,
    ⟨(some 97), .mv (.t 0), (some (96, true))⟩,
    ⟨(some 98), .mv (.t 1), (some (96, true))⟩,
    ⟨(some 99), .mv (.t 10), (some (96, true))⟩,
    ⟨(some 100), .mv (.t 9), (some (96, true))⟩,
    ⟨(some 101), .call 33 [(.t 97), (.t 98), (.t 99), (.t 100)], (some (96, true))⟩,
    ⟨(some 102), .un .not (.t 101), (some (96, true))⟩,
    ⟨(some 103), .pick (.t 96) (.t 102) (.c (.bool false)), none⟩,
    ⟨(some 104), .mv (.t 103), none⟩,
    ⟨(some 105), .call 19 [], (some (104, true))⟩,
    ⟨(some 106), .pick (.t 104) (.t 105) (.c (.bool false)), none⟩,
    ⟨(some 6), .mv (.t 106), none⟩] (some [6]))
  .ret))))))), [.t 6]⟩
theorem law35_CoupleEither_ok : cFn Tryz.prog (kps [[0, 1, 5], [0, 1, 7, 8, 9], [0, 1, 7, 8, 9, 50], [6], [0, 1, 7, 9, 10], [0, 1, 7, 9, 10, 56, 57], [0, 1, 7, 9, 10, 56, 57, 58], [0, 1, 7, 9, 10, 11, 56, 57], [0, 1, 7, 9, 10, 56, 57], [0, 1, 7, 9, 10, 56, 57], [0, 1, 9, 10, 12, 13, 14], [6]]) [] 11 = some law35_CoupleEither_c := by kernel_rfl

abbrev law35_Few : Nat := 12
def law35_Few_c : MFn :=
  ⟨40, (.seq (.region [⟨(some 2), .mv (.c (.bool false)), none⟩] (some [0]))
  (.seq (.seq (.region [⟨(some 4), .mv (.t 0), none⟩,
    ⟨(some 5), .lenS (.t 4), none⟩,
    ⟨(some 6), .bin .gtr (.t 5) (.c (.int .i64 10)), none⟩] (some [0, 6]))
  (.cond (.t 6)
    (.seq (.region [⟨(some 2), .mv (.c (.bool false)), none⟩] (some [2]))
    .ret)
    .skip))
  (.seq (.seq (.region [⟨(some 7), .mv (.t 0), none⟩,
    ⟨(some 8), .lenS (.t 7), none⟩,
    ⟨(some 9), .mv (.c (.int .i64 0)), none⟩] (some [0, 8, 9]))
  (.block 0 (.loop (.seq (.region [⟨(some 10), .bin .lss (.t 9) (.t 8), none⟩] (some [0, 8, 9, 10]))
      (.seq (.cond (.t 10)
        .skip
        (.exit 0))
      (.seq (.block 1 (.seq (.region [⟨(some 11), .mv (.t 9), none⟩,
          ⟨(some 3), .mv (.t 11), none⟩] (some [0, 3, 8, 9]))
        (.seq (.region [⟨(some 12), .mv (.t 0), none⟩,
          ⟨(some 13), .mv (.t 3), none⟩,
          ⟨(some 14), .ixA 6 (.t 12) (.t 13), none⟩,
          ⟨(some 15), .fA 0 (.t 14), none⟩,
          ⟨(some 16), .ld (some 3) (.t 15), none⟩,
          ⟨(some 17), .call 40 [(.t 16)], none⟩,
          ⟨(some 18), .bin .gtr (.t 17) (.c (.int .i64 60)), none⟩,
          ⟨(some 19), .mv (.t 18), none⟩,
          ⟨(some 20), .mv (.t 0), (some (19, false))⟩,
          ⟨(some 21), .mv (.t 3), (some (19, false))⟩,
          ⟨(some 22), .ixA 6 (.t 20) (.t 21), (some (19, false))⟩,
          ⟨(some 23), .fA 3 (.t 22), (some (19, false))⟩,
          ⟨(some 24), .fA 1 (.t 23), (some (19, false))⟩,
          ⟨(some 25), .ld none (.t 24), (some (19, false))⟩,
          ⟨(some 26), .lenS (.t 25), (some (19, false))⟩,
          ⟨(some 27), .bin .gtr (.t 26) (.c (.int .i64 3)), (some (19, false))⟩,
          ⟨(some 28), .pick (.t 19) (.c (.bool true)) (.t 27), none⟩,
          ⟨(some 29), .mv (.t 28), none⟩,
          ⟨(some 30), .mv (.t 0), (some (29, false))⟩,
          ⟨(some 31), .mv (.t 3), (some (29, false))⟩,
          ⟨(some 32), .ixA 6 (.t 30) (.t 31), (some (29, false))⟩,
          ⟨(some 33), .fA 3 (.t 32), (some (29, false))⟩,
          ⟨(some 34), .fA 2 (.t 33), (some (29, false))⟩,
          ⟨(some 35), .ld none (.t 34), (some (29, false))⟩,
          ⟨(some 36), .lenS (.t 35), (some (29, false))⟩,
          ⟨(some 37), .bin .gtr (.t 36) (.c (.int .i64 3)), (some (29, false))⟩,
          ⟨(some 38), .pick (.t 29) (.c (.bool true)) (.t 37), none⟩] (some [0, 8, 9, 38]))
        (.cond (.t 38)
          (.seq (.region [⟨(some 2), .mv (.c (.bool false)), none⟩] (some [2]))
          .ret)
          .skip))))
      (.region [⟨(some 39), .bin .add (.t 9) (.c (.int .i64 1)), none⟩,
        ⟨(some 9), .mv (.t 39), none⟩] (some [0, 8, 9]))))))))
  (.seq (.region [⟨(some 2), .mv (.c (.bool true)), none⟩] (some [2]))
  .ret)))), [.t 2]⟩
theorem law35_Few_ok : cFn Tryz.prog (kps [[0], [0, 6], [2], [0, 8, 9], [0, 8, 9, 10], [0, 3, 8, 9], [0, 8, 9, 38], [2], [0, 8, 9], [2]]) [] 12 = some law35_Few_c := by kernel_rfl

abbrev law35_fewPairs : Nat := 13
def law35_fewPairs_c : MFn :=
  ⟨31, (.seq (.region [⟨(some 2), .mv (.c (.bool false)), none⟩] (some [0]))
  (.seq (.seq (.region [⟨(some 4), .mv (.t 0), none⟩,
    ⟨(some 5), .lenS (.t 4), none⟩,
    ⟨(some 6), .bin .gtr (.t 5) (.c (.int .i64 60)), none⟩] (some [0, 6]))
  (.cond (.t 6)
    (.seq (.region [⟨(some 2), .mv (.c (.bool false)), none⟩] (some [2]))
    .ret)
    .skip))
  (.seq (.seq (.region [⟨(some 7), .mv (.t 0), none⟩,
    ⟨(some 8), .lenS (.t 7), none⟩,
    ⟨(some 9), .mv (.c (.int .i64 0)), none⟩] (some [0, 8, 9]))
  (.block 0 (.loop (.seq (.region [⟨(some 10), .bin .lss (.t 9) (.t 8), none⟩] (some [0, 8, 9, 10]))
      (.seq (.cond (.t 10)
        .skip
        (.exit 0))
      (.seq (.block 1 (.seq (.region [⟨(some 11), .mv (.t 9), none⟩,
          ⟨(some 3), .mv (.t 11), none⟩] (some [0, 3, 8, 9]))
        (.seq (.region [⟨(some 12), .mv (.t 0), none⟩,
          ⟨(some 13), .mv (.t 3), none⟩,
          ⟨(some 14), .ixA 5 (.t 12) (.t 13), none⟩,
          ⟨(some 15), .fA 2 (.t 14), none⟩,
          ⟨(some 16), .fA 1 (.t 15), none⟩,
          ⟨(some 17), .ld none (.t 16), none⟩,
          ⟨(some 18), .lenS (.t 17), none⟩,
          ⟨(some 19), .bin .gtr (.t 18) (.c (.int .i64 3)), none⟩,
          ⟨(some 20), .mv (.t 19), none⟩,
          ⟨(some 21), .mv (.t 0), (some (20, false))⟩,
          ⟨(some 22), .mv (.t 3), (some (20, false))⟩,
          ⟨(some 23), .ixA 5 (.t 21) (.t 22), (some (20, false))⟩,
          ⟨(some 24), .fA 2 (.t 23), (some (20, false))⟩,
          ⟨(some 25), .fA 2 (.t 24), (some (20, false))⟩,
          ⟨(some 26), .ld none (.t 25), (some (20, false))⟩,
          ⟨(some 27), .lenS (.t 26), (some (20, false))⟩,
          ⟨(some 28), .bin .gtr (.t 27) (.c (.int .i64 3)), (some (20, false))⟩,
          ⟨(some 29), .pick (.t 20) (.c (.bool true)) (.t 28), none⟩] (some [0, 8, 9, 29]))
        (.cond (.t 29)
          (.seq (.region [⟨(some 2), .mv (.c (.bool false)), none⟩] (some [2]))
          .ret)
          .skip))))
      (.region [⟨(some 30), .bin .add (.t 9) (.c (.int .i64 1)), none⟩,
        ⟨(some 9), .mv (.t 30), none⟩] (some [0, 8, 9]))))))))
  (.seq (.region [⟨(some 2), .mv (.c (.bool true)), none⟩] (some [2]))
  .ret)))), [.t 2]⟩
theorem law35_fewPairs_ok : cFn Tryz.prog (kps [[0], [0, 6], [2], [0, 8, 9], [0, 8, 9, 10], [0, 3, 8, 9], [0, 8, 9, 29], [2], [0, 8, 9], [2]]) [] 13 = some law35_fewPairs_c := by kernel_rfl

abbrev couple_Right : Nat := 14
def couple_Right_c : MFn :=
  ⟨57, (.seq (.region [⟨(some 2), .mv (.c (.bool false)), none⟩] (some [0]))
  (.seq (.seq (.region [⟨(some 6), .mv (.t 0), none⟩,
    ⟨(some 7), .lenS (.t 6), none⟩,
    ⟨(some 8), .bin .gtr (.t 7) (.c (.int .i64 60)), none⟩] (some [0, 8]))
  (.cond (.t 8)
    (.seq (.region [⟨(some 2), .mv (.c (.bool false)), none⟩] (some [2]))
    .ret)
    .skip))
  (.seq (.region [⟨(some 9), .call 41 [], none⟩,
    ⟨(some 3), .alloc [.bool false, .nils, .nils], none⟩,
    ⟨none, .st 3 (.t 3) (.t 9), none⟩] (some [0, 3]))
  (.seq (.seq (.region [⟨(some 10), .mv (.t 0), none⟩,
    ⟨(some 11), .lenS (.t 10), none⟩,
    ⟨(some 12), .mv (.c (.int .i64 0)), none⟩] (some [0, 3, 10, 11, 12]))
  (.block 0 (.loop (.seq (.region [⟨(some 13), .bin .lss (.t 12) (.t 11), none⟩] (some [0, 3, 10, 11, 12, 13]))
      (.seq (.cond (.t 13)
        .skip
        (.exit 0))
      (.seq (.block 1 (.seq (.region [⟨(some 14), .mv (.t 12), none⟩,
          ⟨(some 15), .ixA 6 (.t 10) (.t 12), none⟩,
          ⟨(some 16), .ld (some 6) (.t 15), none⟩,
          ⟨(some 5), .alloc [.int .i64 0, .int .i64 0, .nils, .bool false, .nils, .nils], none⟩,
          ⟨(some 4), .mv (.t 14), none⟩,
          ⟨none, .st 6 (.t 5) (.t 16), none⟩] (some [0, 3, 4, 5, 10, 11, 12]))
        (.seq (.seq (.region [⟨(some 17), .fA 0 (.t 5), none⟩,
          ⟨(some 18), .ld (some 3) (.t 17), none⟩,
          ⟨(some 19), .callF 42 [(.t 18)], none⟩,
          ⟨(some 20), .un .not (.t 19), none⟩,
          ⟨(some 21), .mv (.t 20), none⟩,
          ⟨(some 22), .fA 3 (.t 5), (some (21, false))⟩,
          ⟨(some 23), .ld (some 3) (.t 22), (some (21, false))⟩,
          ⟨(some 24), .callF 43 [(.t 23)], (some (21, false))⟩,
          ⟨(some 25), .un .not (.t 24), (some (21, false))⟩,
          ⟨(some 26), .pick (.t 21) (.c (.bool true)) (.t 25), none⟩,
          ⟨(some 27), .mv (.t 26), none⟩,
          ⟨(some 28), .fA 3 (.t 5), (some (27, false))⟩,
          ⟨(some 29), .ld (some 3) (.t 28), (some (27, false))⟩,
          ⟨(some 30), .callF 44 [(.t 29)], (some (27, false))⟩,
          ⟨(some 31), .bin .leq (.t 30) (.c (.int .i64 0)), (some (27, false))⟩,
          ⟨(some 32), .pick (.t 27) (.c (.bool true)) (.t 31), none⟩,
          ⟨(some 33), .mv (.t 32), none⟩,
          ⟨(some 34), .mv (.t 4), (some (33, false))⟩,
          ⟨(some 35), .bin .gtr (.t 34) (.c (.int .i64 0)), (some (33, false))⟩,
          ⟨(some 36), .mv (.t 35), (some (33, false))⟩,
          ⟨(some 37), .mv (.t 0), (some (36, true))⟩,
          ⟨(some 38), .mv (.t 4), (some (36, true))⟩,
          ⟨(some 39), .bin .sub (.t 38) (.c (.int .i64 1)), (some (36, true))⟩,
          ⟨(some 40), .ixA 6 (.t 37) (.t 39), (some (36, true))⟩,
          ⟨(some 41), .fA 0 (.t 40), (some (36, true))⟩,
          ⟨(some 42), .ld (some 3) (.t 41), (some (36, true))⟩,
          ⟨(some 43), .fA 0 (.t 5), (some (36, true))⟩,
          ⟨(some 44), .ld (some 3) (.t 43), (some (36, true))⟩,
          ⟨(some 45), .callF 45 [(.t 42), (.t 44)], (some (36, true))⟩,
          ⟨(some 46), .bin .geq (.t 45) (.c (.int .i64 0)), (some (36, true))⟩,
          ⟨(some 47), .pick (.t 36) (.t 46) (.c (.bool false)), (some (33, false))⟩,
          ⟨(some 48), .pick (.t 33) (.c (.bool true)) (.t 47), none⟩] (some [0, 3, 5, 10, 11, 12, 48]))
        (.cond (.t 48)
          (.seq (.region [⟨(some 2), .mv (.c (.bool false)), none⟩] (some [2]))
          .ret)
          .skip))
        (.region [⟨(some 49), .ld (some 3) (.t 3), none⟩,
          ⟨(some 50), .fA 3 (.t 5), none⟩,
          ⟨(some 51), .ld (some 3) (.t 50), none⟩,
          ⟨(some 52), .call 46 [(.t 49), (.t 51)], none⟩,
          ⟨none, .st 3 (.t 3) (.t 52), none⟩] (some [0, 3, 10, 11, 12])))))
      (.region [⟨(some 53), .bin .add (.t 12) (.c (.int .i64 1)), none⟩,
        ⟨(some 12), .mv (.t 53), none⟩] (some [0, 3, 10, 11, 12]))))))))
  (.seq (.region [⟨(some 54), .ld (some 3) (.t 3), none⟩,
    ⟨(some 55), .callF 48 [], none⟩,
    ⟨(some 56), .callF 47 [(.t 54), (.t 55)], none⟩,
    ⟨(some 2), .mv (.t 56), none⟩] (some [2]))
  .ret))))), [.t 2]⟩
theorem couple_Right_ok : cFn Tryz.prog (kps [[0], [0, 8], [2], [0, 3], [0, 3, 10, 11, 12], [0, 3, 10, 11, 12, 13], [0, 3, 4, 5, 10, 11, 12], [0, 3, 5, 10, 11, 12, 48], [2], [0, 3, 10, 11, 12], [0, 3, 10, 11, 12], [2]]) [] 14 = some couple_Right_c := by kernel_rfl

abbrev ref35_Right : Nat := 15
def ref35_Right_c : MFn :=
  ⟨57, (.seq (.region [⟨(some 2), .mv (.c (.bool false)), none⟩] (some [0]))
  (.seq (.seq (.region [⟨(some 6), .mv (.t 0), none⟩,
    ⟨(some 7), .lenS (.t 6), none⟩,
    ⟨(some 8), .bin .gtr (.t 7) (.c (.int .i64 60)), none⟩] (some [0, 8]))
  (.cond (.t 8)
    (.seq (.region [⟨(some 2), .mv (.c (.bool false)), none⟩] (some [2]))
    .ret)
    .skip))
  (.seq (.region [⟨(some 9), .call 29 [], none⟩,
    ⟨(some 3), .alloc [.bool false, .nils, .nils], none⟩,
    ⟨none, .st 3 (.t 3) (.t 9), none⟩] (some [0, 3]))
  (.seq (.seq (.region [⟨(some 10), .mv (.t 0), none⟩,
    ⟨(some 11), .lenS (.t 10), none⟩,
    ⟨(some 12), .mv (.c (.int .i64 0)), none⟩] (some [0, 3, 10, 11, 12]))
  (.block 0 (.loop (.seq (.region [⟨(some 13), .bin .lss (.t 12) (.t 11), none⟩] (some [0, 3, 10, 11, 12, 13]))
      (.seq (.cond (.t 13)
        .skip
        (.exit 0))
      (.seq (.block 1 (.seq (.region [⟨(some 14), .mv (.t 12), none⟩,
          ⟨(some 15), .ixA 6 (.t 10) (.t 12), none⟩,
          ⟨(some 16), .ld (some 6) (.t 15), none⟩,
          ⟨(some 5), .alloc [.int .i64 0, .int .i64 0, .nils, .bool false, .nils, .nils], none⟩,
          ⟨(some 4), .mv (.t 14), none⟩,
          ⟨none, .st 6 (.t 5) (.t 16), none⟩] (some [0, 3, 4, 5, 10, 11, 12]))
        (.seq (.seq (.region [⟨(some 17), .fA 0 (.t 5), none⟩,
          ⟨(some 18), .ld (some 3) (.t 17), none⟩,
          ⟨(some 19), .callF 49 [(.t 18)], none⟩,
          ⟨(some 20), .un .not (.t 19), none⟩,
          ⟨(some 21), .mv (.t 20), none⟩,
          ⟨(some 22), .fA 3 (.t 5), (some (21, false))⟩,
          ⟨(some 23), .ld (some 3) (.t 22), (some (21, false))⟩,
          ⟨(some 24), .callF 50 [(.t 23)], (some (21, false))⟩,
          ⟨(some 25), .un .not (.t 24), (some (21, false))⟩,
          ⟨(some 26), .pick (.t 21) (.c (.bool true)) (.t 25), none⟩,
          ⟨(some 27), .mv (.t 26), none⟩,
          ⟨(some 28), .fA 3 (.t 5), (some (27, false))⟩,
          ⟨(some 29), .ld (some 3) (.t 28), (some (27, false))⟩,
          ⟨(some 30), .callF 51 [(.t 29)], (some (27, false))⟩,
          ⟨(some 31), .bin .leq (.t 30) (.c (.int .i64 0)), (some (27, false))⟩,
          ⟨(some 32), .pick (.t 27) (.c (.bool true)) (.t 31), none⟩,
          ⟨(some 33), .mv (.t 32), none⟩,
          ⟨(some 34), .mv (.t 4), (some (33, false))⟩,
          ⟨(some 35), .bin .gtr (.t 34) (.c (.int .i64 0)), (some (33, false))⟩,
          ⟨(some 36), .mv (.t 35), (some (33, false))⟩,
          ⟨(some 37), .mv (.t 0), (some (36, true))⟩,
          ⟨(some 38), .mv (.t 4), (some (36, true))⟩,
          ⟨(some 39), .bin .sub (.t 38) (.c (.int .i64 1)), (some (36, true))⟩,
          ⟨(some 40), .ixA 6 (.t 37) (.t 39), (some (36, true))⟩,
          ⟨(some 41), .fA 0 (.t 40), (some (36, true))⟩,
          ⟨(some 42), .ld (some 3) (.t 41), (some (36, true))⟩,
          ⟨(some 43), .fA 0 (.t 5), (some (36, true))⟩,
          ⟨(some 44), .ld (some 3) (.t 43), (some (36, true))⟩,
          ⟨(some 45), .callF 52 [(.t 42), (.t 44)], (some (36, true))⟩,
          ⟨(some 46), .bin .geq (.t 45) (.c (.int .i64 0)), (some (36, true))⟩,
          ⟨(some 47), .pick (.t 36) (.t 46) (.c (.bool false)), (some (33, false))⟩,
          ⟨(some 48), .pick (.t 33) (.c (.bool true)) (.t 47), none⟩] (some [0, 3, 5, 10, 11, 12, 48]))
        (.cond (.t 48)
          (.seq (.region [⟨(some 2), .mv (.c (.bool false)), none⟩] (some [2]))
          .ret)
          .skip))
        (.region [⟨(some 49), .ld (some 3) (.t 3), none⟩,
          ⟨(some 50), .fA 3 (.t 5), none⟩,
          ⟨(some 51), .ld (some 3) (.t 50), none⟩,
          ⟨(some 52), .call 30 [(.t 49), (.t 51)], none⟩,
          ⟨none, .st 3 (.t 3) (.t 52), none⟩] (some [0, 3, 10, 11, 12])))))
      (.region [⟨(some 53), .bin .add (.t 12) (.c (.int .i64 1)), none⟩,
        ⟨(some 12), .mv (.t 53), none⟩] (some [0, 3, 10, 11, 12]))))))))
  (.seq (.region [⟨(some 54), .ld (some 3) (.t 3), none⟩,
    ⟨(some 55), .callF 53 [], none⟩,
    ⟨(some 56), .callF 24 [(.t 54), (.t 55)], none⟩,
    ⟨(some 2), .mv (.t 56), none⟩] (some [2]))
  .ret))))), [.t 2]⟩
theorem ref35_Right_ok : cFn Tryz.prog (kps [[0], [0, 8], [2], [0, 3], [0, 3, 10, 11, 12], [0, 3, 10, 11, 12, 13], [0, 3, 4, 5, 10, 11, 12], [0, 3, 5, 10, 11, 12, 48], [2], [0, 3, 10, 11, 12], [0, 3, 10, 11, 12], [2]]) [] 15 = some ref35_Right_c := by kernel_rfl

abbrev couple_Couples : Nat := 16
def couple_Couples_c : MFn :=
  ⟨108, (.seq (.region [⟨(some 6), .mv (.c (.bool false)), none⟩] (some [0, 1, 2]))
  (.seq (.seq (.region [⟨(some 11), .mv (.t 0), none⟩,
    ⟨(some 12), .call 14 [(.t 11)], none⟩,
    ⟨(some 13), .un .not (.t 12), none⟩,
    ⟨(some 14), .mv (.t 13), none⟩,
    ⟨(some 15), .mv (.t 1), (some (14, false))⟩,
    ⟨(some 16), .call 14 [(.t 15)], (some (14, false))⟩,
    ⟨(some 17), .un .not (.t 16), (some (14, false))⟩,
    ⟨(some 18), .pick (.t 14) (.c (.bool true)) (.t 17), none⟩] (some [0, 1, 2, 18]))
  (.cond (.t 18)
    (.seq (.region [⟨(some 6), .mv (.c (.bool false)), none⟩] (some [6]))
    .ret)
    .skip))
  (.seq (.region [⟨(some 19), .mv (.t 0), none⟩,
    ⟨(some 20), .call 54 [(.t 19)], none⟩,
    ⟨(some 21), .mv (.t 1), none⟩,
    ⟨(some 22), .call 54 [(.t 21)], none⟩,
    ⟨(some 7), .mv (.t 20), none⟩,
    ⟨(some 8), .mv (.t 22), none⟩] (some [0, 1, 2, 7, 8]))
  (.seq (.seq (.region [⟨(some 23), .mv (.t 2), none⟩,
    ⟨(some 24), .lenS (.t 23), none⟩,
    ⟨(some 25), .mv (.c (.int .i64 0)), none⟩] (some [0, 1, 2, 7, 8, 23, 24, 25]))
  (.block 0 (.loop (.seq (.region [⟨(some 26), .bin .lss (.t 25) (.t 24), none⟩] (some [0, 1, 2, 7, 8, 23, 24, 25, 26]))
      (.seq (.cond (.t 26)
        .skip
        (.exit 0))
      (.seq (.block 1 (.seq (.region [⟨(some 27), .mv (.t 25), none⟩,
          ⟨(some 28), .ixA 5 (.t 23) (.t 25), none⟩,
          ⟨(some 29), .ld (some 5) (.t 28), none⟩,
          ⟨(some 10), .alloc [.int .i64 0, .int .i64 0, .bool false, .nils, .nils], none⟩,
          ⟨(some 9), .mv (.t 27), none⟩,
          ⟨none, .st 5 (.t 10) (.t 29), none⟩] (some [0, 1, 2, 7, 8, 9, 10, 23, 24, 25]))
        (.seq (.seq (.region [⟨(some 30), .mv (.t 9), none⟩,
          ⟨(some 31), .bin .gtr (.t 30) (.c (.int .i64 0)), none⟩,
          ⟨(some 32), .mv (.t 31), none⟩,
          ⟨(some 33), .mv (.t 2), (some (32, true))⟩,
          ⟨(some 34), .mv (.t 9), (some (32, true))⟩,
          ⟨(some 35), .bin .sub (.t 34) (.c (.int .i64 1)), (some (32, true))⟩,
          ⟨(some 36), .ixA 5 (.t 33) (.t 35), (some (32, true))⟩,
          ⟨(some 37), .ld (some 5) (.t 36), (some (32, true))⟩,
          ⟨(some 38), .ld (some 5) (.t 10), (some (32, true))⟩,
          ⟨(some 39), .callF 55 [(.t 37), (.t 38)], (some (32, true))⟩,
          ⟨(some 40), .bin .geq (.t 39) (.c (.int .i64 0)), (some (32, true))⟩,
          ⟨(some 41), .pick (.t 32) (.t 40) (.c (.bool false)), none⟩,
          ⟨(some 42), .mv (.t 41), none⟩,
          ⟨(some 43), .fA 0 (.t 10), (some (42, false))⟩,
          ⟨(some 44), .ld none (.t 43), (some (42, false))⟩,
          ⟨(some 45), .bin .lss (.t 44) (.c (.int .i64 0)), (some (42, false))⟩,
          ⟨(some 46), .pick (.t 42) (.c (.bool true)) (.t 45), none⟩,
          ⟨(some 47), .mv (.t 46), none⟩,
          ⟨(some 48), .fA 0 (.t 10), (some (47, false))⟩,
          ⟨(some 49), .ld none (.t 48), (some (47, false))⟩,
          ⟨(some 50), .mv (.t 0), (some (47, false))⟩,
          ⟨(some 51), .lenS (.t 50), (some (47, false))⟩,
          ⟨(some 52), .bin .geq (.t 49) (.t 51), (some (47, false))⟩,
          ⟨(some 53), .pick (.t 47) (.c (.bool true)) (.t 52), none⟩,
          ⟨(some 54), .mv (.t 53), none⟩,
          ⟨(some 55), .fA 1 (.t 10), (some (54, false))⟩,
          ⟨(some 56), .ld none (.t 55), (some (54, false))⟩,
          ⟨(some 57), .bin .lss (.t 56) (.c (.int .i64 0)), (some (54, false))⟩,
          ⟨(some 58), .pick (.t 54) (.c (.bool true)) (.t 57), none⟩,
          ⟨(some 59), .mv (.t 58), none⟩,
          ⟨(some 60), .fA 1 (.t 10), (some (59, false))⟩,
          ⟨(some 61), .ld none (.t 60), (some (59, false))⟩,
          ⟨(some 62), .mv (.t 1), (some (59, false))⟩,
          ⟨(some 63), .lenS (.t 62), (some (59, false))⟩,
          ⟨(some 64), .bin .geq (.t 61) (.t 63), (some (59, false))⟩,
          ⟨(some 65), .pick (.t 59) (.c (.bool true)) (.t 64), none⟩,
          ⟨(some 66), .mv (.t 65), none⟩,
          ⟨(some 67), .fA 2 (.t 10), (some (66, false))⟩,
          ⟨(some 68), .ld (some 3) (.t 67), (some (66, false))⟩,
          ⟨(some 69), .callF 43 [(.t 68)], (some (66, false))⟩,
          ⟨(some 70), .un .not (.t 69), (some (66, false))⟩,
          ⟨(some 71), .pick (.t 66) (.c (.bool true)) (.t 70), none⟩,
          ⟨(some 72), .mv (.t 71), none⟩,
          ⟨(some 73), .fA 2 (.t 10), (some (72, false))⟩,
          ⟨(some 74), .ld (some 3) (.t 73), (some (72, false))⟩,
          ⟨(some 75), .callF 44 [(.t 74)], (some (72, false))⟩,
          ⟨(some 76), .bin .leq (.t 75) (.c (.int .i64 0)), (some (72, false))⟩,
          ⟨(some 77), .pick (.t 72) (.c (.bool true)) (.t 76), none⟩] (some [0, 1, 2, 7, 8, 10, 23, 24, 25, 77]))
        (.cond (.t 77)
          (.seq (.region [⟨(some 6), .mv (.c (.bool false)), none⟩] (some [6]))
          .ret)
          .skip))
        (.region [⟨(some 78), .mv (.t 7), none⟩,
          ⟨(some 79), .fA 0 (.t 10), none⟩,
          ⟨(some 80), .ld none (.t 79), none⟩,
          ⟨(some 81), .mv (.t 8), none⟩,
          ⟨(some 82), .fA 1 (.t 10), none⟩,
          ⟨(some 83), .ld none (.t 82), none⟩,
          ⟨(some 84), .mv (.t 7), none⟩,
          ⟨(some 85), .fA 0 (.t 10), none⟩,
          ⟨(some 86), .ld none (.t 85), none⟩,
          ⟨(some 87), .ixA 3 (.t 84) (.t 86), none⟩,
          ⟨(some 88), .ld (some 3) (.t 87), none⟩,
          ⟨(some 89), .fA 2 (.t 10), none⟩,
          ⟨(some 90), .ld (some 3) (.t 89), none⟩,
          ⟨(some 91), .callF 56 [(.t 88), (.t 90)], none⟩,
          ⟨(some 92), .mv (.t 8), none⟩,
          ⟨(some 93), .fA 1 (.t 10), none⟩,
          ⟨(some 94), .ld none (.t 93), none⟩,
          ⟨(some 95), .ixA 3 (.t 92) (.t 94), none⟩,
          ⟨(some 96), .ld (some 3) (.t 95), none⟩,
          ⟨(some 97), .fA 2 (.t 10), none⟩,
          ⟨(some 98), .ld (some 3) (.t 97), none⟩,
          ⟨(some 99), .callF 56 [(.t 96), (.t 98)], none⟩,
          ⟨(some 100), .ixA 3 (.t 78) (.t 80), none⟩,
          ⟨none, .stA 3 (.t 100) (.t 91) [82], none⟩,
          ⟨(some 101), .ixA 3 (.t 81) (.t 83), none⟩,
          ⟨none, .st 3 (.t 101) (.t 99), none⟩] (some [0, 1, 2, 7, 8, 23, 24, 25])))))
      (.region [⟨(some 102), .bin .add (.t 25) (.c (.int .i64 1)), none⟩,
        ⟨(some 25), .mv (.t 102), none⟩] (some [0, 1, 2, 7, 8, 23, 24, 25]))))))))
  (.seq (.region [⟨(some 103), .mv (.t 7), none⟩,
    ⟨(some 104), .mv (.t 8), none⟩,
    ⟨(some 105), .app 3 56 (.t 103) (.t 104), none⟩,
    ⟨(some 106), .call 57 [(.t 105), (.c (.clo 58 []))], none⟩,
    ⟨(some 107), .un .not (.t 106), none⟩,
    ⟨(some 6), .mv (.t 107), none⟩] (some [6]))
  .ret))))), [.t 6]⟩
theorem couple_Couples_ok : cFn Tryz.prog (kps [[0, 1, 2], [0, 1, 2, 18], [6], [0, 1, 2, 7, 8], [0, 1, 2, 7, 8, 23, 24, 25], [0, 1, 2, 7, 8, 23, 24, 25, 26], [0, 1, 2, 7, 8, 9, 10, 23, 24, 25], [0, 1, 2, 7, 8, 10, 23, 24, 25, 77], [6], [0, 1, 2, 7, 8, 23, 24, 25], [0, 1, 2, 7, 8, 23, 24, 25], [6]]) [] 16 = some couple_Couples_c := by kernel_rfl

abbrev ref35_Couples : Nat := 17
def ref35_Couples_c : MFn :=
  ⟨162, (.seq (.region [⟨(some 6), .mv (.c (.bool false)), none⟩] (some [0, 1, 2]))
  (.seq (.seq (.region [⟨(some 17), .mv (.t 0), none⟩,
    ⟨(some 18), .call 15 [(.t 17)], none⟩,
    ⟨(some 19), .un .not (.t 18), none⟩,
    ⟨(some 20), .mv (.t 19), none⟩,
    ⟨(some 21), .mv (.t 1), (some (20, false))⟩,
    ⟨(some 22), .call 15 [(.t 21)], (some (20, false))⟩,
    ⟨(some 23), .un .not (.t 22), (some (20, false))⟩,
    ⟨(some 24), .pick (.t 20) (.c (.bool true)) (.t 23), none⟩] (some [0, 1, 2, 24]))
  (.cond (.t 24)
    (.seq (.region [⟨(some 6), .mv (.c (.bool false)), none⟩] (some [6]))
    .ret)
    .skip))
  (.seq (.seq (.region [⟨(some 25), .mv (.t 2), none⟩,
    ⟨(some 26), .lenS (.t 25), none⟩,
    ⟨(some 27), .mv (.c (.int .i64 0)), none⟩] (some [0, 1, 2, 25, 26, 27]))
  (.block 0 (.loop (.seq (.region [⟨(some 28), .bin .lss (.t 27) (.t 26), none⟩] (some [0, 1, 2, 25, 26, 27, 28]))
      (.seq (.cond (.t 28)
        .skip
        (.exit 0))
      (.seq (.block 1 (.seq (.region [⟨(some 29), .mv (.t 27), none⟩,
          ⟨(some 30), .ixA 5 (.t 25) (.t 27), none⟩,
          ⟨(some 31), .ld (some 5) (.t 30), none⟩,
          ⟨(some 8), .alloc [.int .i64 0, .int .i64 0, .bool false, .nils, .nils], none⟩,
          ⟨(some 7), .mv (.t 29), none⟩,
          ⟨none, .st 5 (.t 8) (.t 31), none⟩] (some [0, 1, 2, 7, 8, 25, 26, 27]))
        (.seq (.seq (.region [⟨(some 32), .fA 0 (.t 8), none⟩,
          ⟨(some 33), .ld none (.t 32), none⟩,
          ⟨(some 34), .bin .lss (.t 33) (.c (.int .i64 0)), none⟩,
          ⟨(some 35), .mv (.t 34), none⟩,
          ⟨(some 36), .fA 0 (.t 8), (some (35, false))⟩,
          ⟨(some 37), .ld none (.t 36), (some (35, false))⟩,
          ⟨(some 38), .mv (.t 0), (some (35, false))⟩,
          ⟨(some 39), .lenS (.t 38), (some (35, false))⟩,
          ⟨(some 40), .bin .geq (.t 37) (.t 39), (some (35, false))⟩,
          ⟨(some 41), .pick (.t 35) (.c (.bool true)) (.t 40), none⟩,
          ⟨(some 42), .mv (.t 41), none⟩,
          ⟨(some 43), .fA 1 (.t 8), (some (42, false))⟩,
          ⟨(some 44), .ld none (.t 43), (some (42, false))⟩,
          ⟨(some 45), .bin .lss (.t 44) (.c (.int .i64 0)), (some (42, false))⟩,
          ⟨(some 46), .pick (.t 42) (.c (.bool true)) (.t 45), none⟩,
          ⟨(some 47), .mv (.t 46), none⟩,
          ⟨(some 48), .fA 1 (.t 8), (some (47, false))⟩,
          ⟨(some 49), .ld none (.t 48), (some (47, false))⟩,
          ⟨(some 50), .mv (.t 1), (some (47, false))⟩,
          ⟨(some 51), .lenS (.t 50), (some (47, false))⟩,
          ⟨(some 52), .bin .geq (.t 49) (.t 51), (some (47, false))⟩,
          ⟨(some 53), .pick (.t 47) (.c (.bool true)) (.t 52), none⟩,
          ⟨(some 54), .mv (.t 53), none⟩,
          ⟨(some 55), .fA 2 (.t 8), (some (54, false))⟩,
          ⟨(some 56), .ld (some 3) (.t 55), (some (54, false))⟩,
          ⟨(some 57), .call 50 [(.t 56)], (some (54, false))⟩,
          ⟨(some 58), .un .not (.t 57), (some (54, false))⟩,
          ⟨(some 59), .pick (.t 54) (.c (.bool true)) (.t 58), none⟩,
          ⟨(some 60), .mv (.t 59), none⟩,
          ⟨(some 61), .fA 2 (.t 8), (some (60, false))⟩,
          ⟨(some 62), .ld (some 3) (.t 61), (some (60, false))⟩,
          ⟨(some 63), .call 51 [(.t 62)], (some (60, false))⟩,
          ⟨(some 64), .bin .leq (.t 63) (.c (.int .i64 0)), (some (60, false))⟩,
          ⟨(some 65), .pick (.t 60) (.c (.bool true)) (.t 64), none⟩] (some [0, 1, 2, 7, 8, 25, 26, 27, 65]))
        (.cond (.t 65)
          (.seq (.region [⟨(some 6), .mv (.c (.bool false)), none⟩] (some [6]))
          .ret)
          .skip))
        (.seq (.region [⟨(some 66), .mv (.t 7), none⟩,
          ⟨(some 67), .bin .gtr (.t 66) (.c (.int .i64 0)), none⟩,
          ⟨(some 68), .mv (.t 67), none⟩,
          ⟨(some 69), .mv (.t 2), (some (68, true))⟩,
          ⟨(some 70), .mv (.t 7), (some (68, true))⟩,
          ⟨(some 71), .bin .sub (.t 70) (.c (.int .i64 1)), (some (68, true))⟩,
          ⟨(some 72), .ixA 5 (.t 69) (.t 71), (some (68, true))⟩,
          ⟨(some 73), .fA 0 (.t 72), (some (68, true))⟩,
          ⟨(some 74), .ld none (.t 73), (some (68, true))⟩,
          ⟨(some 75), .fA 0 (.t 8), (some (68, true))⟩,
          ⟨(some 76), .ld none (.t 75), (some (68, true))⟩,
          ⟨(some 77), .bin .gtr (.t 74) (.t 76), (some (68, true))⟩,
          ⟨(some 78), .mv (.t 77), (some (68, true))⟩,
          ⟨(some 79), .mv (.t 2), (some (78, false))⟩,
          ⟨(some 80), .mv (.t 7), (some (78, false))⟩,
          ⟨(some 81), .bin .sub (.t 80) (.c (.int .i64 1)), (some (78, false))⟩,
          ⟨(some 82), .ixA 5 (.t 79) (.t 81), (some (78, false))⟩,
          ⟨(some 83), .fA 0 (.t 82), (some (78, false))⟩,
          ⟨(some 84), .ld none (.t 83), (some (78, false))⟩,
          ⟨(some 85), .fA 0 (.t 8), (some (78, false))⟩,
          ⟨(some 86), .ld none (.t 85), (some (78, false))⟩,
          ⟨(some 87), .bin .eql (.t 84) (.t 86), (some (78, false))⟩,
          ⟨(some 88), .mv (.t 87), (some (78, false))⟩,
          ⟨(some 89), .mv (.t 2), (some (88, true))⟩,
          ⟨(some 90), .mv (.t 7), (some (88, true))⟩,
          ⟨(some 91), .bin .sub (.t 90) (.c (.int .i64 1)), (some (88, true))⟩,
          ⟨(some 92), .ixA 5 (.t 89) (.t 91), (some (88, true))⟩,
          ⟨(some 93), .fA 1 (.t 92), (some (88, true))⟩,
          ⟨(some 94), .ld none (.t 93), (some (88, true))⟩,
          ⟨(some 95), .fA 1 (.t 8), (some (88, true))⟩,
          ⟨(some 96), .ld none (.t 95), (some (88, true))⟩,
          ⟨(some 97), .bin .geq (.t 94) (.t 96), (some (88, true))⟩,
          ⟨(some 98), .pick (.t 88) (.t 97) (.c (.bool false)), (some (78, false))⟩,
          ⟨(some 99), .pick (.t 78) (.c (.bool true)) (.t 98), (some (68, true))⟩,
          ⟨(some 100), .pick (.t 68) (.t 99) (.c (.bool false)), none⟩] (some [0, 1, 2, 25, 26, 27, 100]))
        (.cond (.t 100)
          (.seq (.region [⟨(some 6), .mv (.c (.bool false)), none⟩] (some [6]))
          .ret)
          .skip)))))
      (.region [⟨(some 101), .bin .add (.t 27) (.c (.int .i64 1)), none⟩,
        ⟨(some 27), .mv (.t 101), none⟩] (some [0, 1, 2, 25, 26, 27]))))))))
  (.seq (.seq (.region [⟨(some 102), .mv (.t 0), none⟩,
    ⟨(some 103), .lenS (.t 102), none⟩,
    ⟨(some 104), .mv (.c (.int .i64 0)), none⟩] (some [0, 1, 2, 103, 104]))
  (.block 2 (.loop (.seq (.region [⟨(some 105), .bin .lss (.t 104) (.t 103), none⟩] (some [0, 1, 2, 103, 104, 105]))
      (.seq (.cond (.t 105)
        .skip
        (.exit 2))
      (.seq (.block 3 (.seq (.region [⟨(some 106), .mv (.t 104), none⟩,
          ⟨(some 9), .mv (.t 106), none⟩] (some [0, 1, 2, 9, 103, 104]))
        (.seq (.region [⟨(some 107), .call 29 [], none⟩,
          ⟨(some 10), .alloc [.bool false, .nils, .nils], none⟩,
          ⟨none, .st 3 (.t 10) (.t 107), none⟩] (some [0, 1, 2, 9, 10, 103, 104]))
        (.seq (.seq (.region [⟨(some 108), .mv (.t 2), none⟩,
          ⟨(some 109), .lenS (.t 108), none⟩,
          ⟨(some 110), .mv (.c (.int .i64 0)), none⟩] (some [0, 1, 2, 9, 10, 103, 104, 108, 109, 110]))
        (.block 4 (.loop (.seq (.region [⟨(some 111), .bin .lss (.t 110) (.t 109), none⟩] (some [0, 1, 2, 9, 10, 103, 104, 108, 109, 110, 111]))
            (.seq (.cond (.t 111)
              .skip
              (.exit 4))
            (.seq (.block 5 (.seq (.region [⟨(some 112), .ixA 5 (.t 108) (.t 110), none⟩,
                ⟨(some 113), .ld (some 5) (.t 112), none⟩,
                ⟨(some 12), .alloc [.int .i64 0, .int .i64 0, .bool false, .nils, .nils], none⟩,
                ⟨none, .st 5 (.t 12) (.t 113), none⟩] (some [0, 1, 2, 9, 10, 12, 103, 104, 108, 109, 110]))
              (.seq (.region [⟨(some 114), .fA 0 (.t 12), none⟩,
                ⟨(some 115), .ld none (.t 114), none⟩,
                ⟨(some 116), .mv (.t 9), none⟩,
                ⟨(some 117), .bin .eql (.t 115) (.t 116), none⟩] (some [0, 1, 2, 9, 10, 12, 103, 104, 108, 109, 110, 117]))
              (.cond (.t 117)
                (.region [⟨(some 118), .ld (some 3) (.t 10), none⟩,
                  ⟨(some 119), .fA 2 (.t 12), none⟩,
                  ⟨(some 120), .ld (some 3) (.t 119), none⟩,
                  ⟨(some 121), .call 30 [(.t 118), (.t 120)], none⟩,
                  ⟨none, .st 3 (.t 10) (.t 121), none⟩] (some [0, 1, 2, 9, 10, 103, 104, 108, 109, 110]))
                .skip))))
            (.region [⟨(some 122), .bin .add (.t 110) (.c (.int .i64 1)), none⟩,
              ⟨(some 110), .mv (.t 122), none⟩] (some [0, 1, 2, 9, 10, 103, 104, 108, 109, 110]))))))))
        (.seq (.region [⟨(some 123), .ld (some 3) (.t 10), none⟩,
          ⟨(some 124), .mv (.t 0), none⟩,
          ⟨(some 125), .mv (.t 9), none⟩,
          ⟨(some 126), .ixA 6 (.t 124) (.t 125), none⟩,
          ⟨(some 127), .fA 3 (.t 126), none⟩,
          ⟨(some 128), .ld (some 3) (.t 127), none⟩,
          ⟨(some 129), .callF 24 [(.t 123), (.t 128)], none⟩,
          ⟨(some 130), .un .not (.t 129), none⟩] (some [0, 1, 2, 103, 104, 130]))
        (.cond (.t 130)
          (.seq (.region [⟨(some 6), .mv (.c (.bool false)), none⟩] (some [6]))
          .ret)
          .skip))))))
      (.region [⟨(some 131), .bin .add (.t 104) (.c (.int .i64 1)), none⟩,
        ⟨(some 104), .mv (.t 131), none⟩] (some [0, 1, 2, 103, 104]))))))))
  (.seq (.seq (.region [⟨(some 132), .mv (.t 1), none⟩,
    ⟨(some 133), .lenS (.t 132), none⟩,
    ⟨(some 134), .mv (.c (.int .i64 0)), none⟩] (some [1, 2, 133, 134]))
  (.block 6 (.loop (.seq (.region [⟨(some 135), .bin .lss (.t 134) (.t 133), none⟩] (some [1, 2, 133, 134, 135]))
      (.seq (.cond (.t 135)
        .skip
        (.exit 6))
      (.seq (.block 7 (.seq (.region [⟨(some 136), .mv (.t 134), none⟩,
          ⟨(some 13), .mv (.t 136), none⟩] (some [1, 2, 13, 133, 134]))
        (.seq (.region [⟨(some 137), .call 29 [], none⟩,
          ⟨(some 14), .alloc [.bool false, .nils, .nils], none⟩,
          ⟨none, .st 3 (.t 14) (.t 137), none⟩] (some [1, 2, 13, 14, 133, 134]))
        (.seq (.seq (.region [⟨(some 138), .mv (.t 2), none⟩,
          ⟨(some 139), .lenS (.t 138), none⟩,
          ⟨(some 140), .mv (.c (.int .i64 0)), none⟩] (some [1, 2, 13, 14, 133, 134, 138, 139, 140]))
        (.block 8 (.loop (.seq (.region [⟨(some 141), .bin .lss (.t 140) (.t 139), none⟩] (some [1, 2, 13, 14, 133, 134, 138, 139, 140, 141]))
            (.seq (.cond (.t 141)
              .skip
              (.exit 8))
            (.seq (.block 9 (.seq (.region [⟨(some 142), .ixA 5 (.t 138) (.t 140), none⟩,
                ⟨(some 143), .ld (some 5) (.t 142), none⟩,
                ⟨(some 16), .alloc [.int .i64 0, .int .i64 0, .bool false, .nils, .nils], none⟩,
                ⟨none, .st 5 (.t 16) (.t 143), none⟩] (some [1, 2, 13, 14, 16, 133, 134, 138, 139, 140]))
              (.seq (.region [⟨(some 144), .fA 1 (.t 16), none⟩,
                ⟨(some 145), .ld none (.t 144), none⟩,
                ⟨(some 146), .mv (.t 13), none⟩,
                ⟨(some 147), .bin .eql (.t 145) (.t 146), none⟩] (some [1, 2, 13, 14, 16, 133, 134, 138, 139, 140, 147]))
              (.cond (.t 147)
                (.region [⟨(some 148), .ld (some 3) (.t 14), none⟩,
                  ⟨(some 149), .fA 2 (.t 16), none⟩,
                  ⟨(some 150), .ld (some 3) (.t 149), none⟩,
                  ⟨(some 151), .call 30 [(.t 148), (.t 150)], none⟩,
                  ⟨none, .st 3 (.t 14) (.t 151), none⟩] (some [1, 2, 13, 14, 133, 134, 138, 139, 140]))
                .skip))))
            (.region [⟨(some 152), .bin .add (.t 140) (.c (.int .i64 1)), none⟩,
              ⟨(some 140), .mv (.t 152), none⟩] (some [1, 2, 13, 14, 133, 134, 138, 139, 140]))))))))
        (.seq (.region [⟨(some 153), .ld (some 3) (.t 14), none⟩,
          ⟨(some 154), .mv (.t 1), none⟩,
          ⟨(some 155), .mv (.t 13), none⟩,
          ⟨(some 156), .ixA 6 (.t 154) (.t 155), none⟩,
          ⟨(some 157), .fA 3 (.t 156), none⟩,
          ⟨(some 158), .ld (some 3) (.t 157), none⟩,
          ⟨(some 159), .callF 24 [(.t 153), (.t 158)], none⟩,
          ⟨(some 160), .un .not (.t 159), none⟩] (some [1, 2, 133, 134, 160]))
        (.cond (.t 160)
          (.seq (.region [⟨(some 6), .mv (.c (.bool false)), none⟩] (some [6]))
          .ret)
          .skip))))))
      (.region [⟨(some 161), .bin .add (.t 134) (.c (.int .i64 1)), none⟩,
        ⟨(some 134), .mv (.t 161), none⟩] (some [1, 2, 133, 134]))))))))
  (.seq (.region [⟨(some 6), .mv (.c (.bool true)), none⟩] (some [6]))
  .ret)))))), [.t 6]⟩
theorem ref35_Couples_ok : cFn Tryz.prog (kps [[0, 1, 2], [0, 1, 2, 24], [6], [0, 1, 2, 25, 26, 27], [0, 1, 2, 25, 26, 27, 28], [0, 1, 2, 7, 8, 25, 26, 27], [0, 1, 2, 7, 8, 25, 26, 27, 65], [6], [0, 1, 2, 25, 26, 27, 100], [6], [0, 1, 2, 25, 26, 27], [0, 1, 2, 103, 104], [0, 1, 2, 103, 104, 105], [0, 1, 2, 9, 103, 104], [0, 1, 2, 9, 10, 103, 104], [0, 1, 2, 9, 10, 103, 104, 108, 109, 110], [0, 1, 2, 9, 10, 103, 104, 108, 109, 110, 111], [0, 1, 2, 9, 10, 12, 103, 104, 108, 109, 110], [0, 1, 2, 9, 10, 12, 103, 104, 108, 109, 110, 117], [0, 1, 2, 9, 10, 103, 104, 108, 109, 110], [0, 1, 2, 9, 10, 103, 104, 108, 109, 110], [0, 1, 2, 103, 104, 130], [6], [0, 1, 2, 103, 104], [1, 2, 133, 134], [1, 2, 133, 134, 135], [1, 2, 13, 133, 134], [1, 2, 13, 14, 133, 134], [1, 2, 13, 14, 133, 134, 138, 139, 140], [1, 2, 13, 14, 133, 134, 138, 139, 140, 141], [1, 2, 13, 14, 16, 133, 134, 138, 139, 140], [1, 2, 13, 14, 16, 133, 134, 138, 139, 140, 147], [1, 2, 13, 14, 133, 134, 138, 139, 140], [1, 2, 13, 14, 133, 134, 138, 139, 140], [1, 2, 133, 134, 160], [6], [1, 2, 133, 134], [6]]) [] 17 = some ref35_Couples_c := by kernel_rfl

abbrev law35_of : Nat := 18
def law35_of_c : MFn :=
  ⟨19, (.seq (.region [⟨(some 2), .mv (.c (.nils)), none⟩] (some [0]))
  (.seq (.region [⟨(some 3), .mv (.c (.nils)), none⟩] (some [0, 3]))
  (.seq (.seq (.region [⟨(some 5), .mv (.t 0), none⟩,
    ⟨(some 6), .lenS (.t 5), none⟩,
    ⟨(some 7), .mv (.c (.int .i64 0)), none⟩] (some [0, 3, 6, 7]))
  (.block 0 (.loop (.seq (.region [⟨(some 8), .bin .lss (.t 7) (.t 6), none⟩] (some [0, 3, 6, 7, 8]))
      (.seq (.cond (.t 8)
        .skip
        (.exit 0))
      (.seq (.block 1 (.seq (.region [⟨(some 9), .mv (.t 7), none⟩,
          ⟨(some 4), .mv (.t 9), none⟩] (some [0, 3, 4, 6, 7]))
        (.region [⟨(some 10), .mv (.t 3), none⟩,
          ⟨(some 11), .mv (.t 0), none⟩,
          ⟨(some 12), .mv (.t 4), none⟩,
          ⟨(some 13), .ixA 5 (.t 11) (.t 12), none⟩,
          ⟨(some 14), .ld (some 5) (.t 13), none⟩,
          ⟨(some 15), .buildSl 5 1 [.int .i64 0, .int .i64 0, .bool false, .nils, .nils] [(0, (.t 14))], none⟩,
          ⟨(some 16), .app 5 72 (.t 10) (.t 15), none⟩,
          ⟨(some 3), .mv (.t 16), none⟩] (some [0, 3, 6, 7]))))
      (.region [⟨(some 17), .bin .add (.t 7) (.c (.int .i64 1)), none⟩,
        ⟨(some 7), .mv (.t 17), none⟩] (some [0, 3, 6, 7]))))))))
  (.seq (.region [⟨(some 18), .mv (.t 3), none⟩,
    ⟨(some 2), .mv (.t 18), none⟩] (some [2]))
  .ret)))), [.t 2]⟩
theorem law35_of_ok : cFn Tryz.prog (kps [[0], [0, 3], [0, 3, 6, 7], [0, 3, 6, 7, 8], [0, 3, 4, 6, 7], [0, 3, 6, 7], [0, 3, 6, 7], [2]]) [] 18 = some law35_of_c := by kernel_rfl

abbrev law35_alive : Nat := 19
def law35_alive_c : MFn :=
  ⟨43, (.seq (.region [⟨(some 0), .mv (.c (.bool false)), none⟩] (some []))
  (.seq (.region [⟨(some 6), .call 59 [(.c (.int .i64 1))], none⟩,
    ⟨(some 7), .call 59 [(.c (.int .i64 2))], none⟩,
    ⟨(some 8), .call 20 [(.t 6), (.t 7)], none⟩,
    ⟨(some 5), .mv (.t 8), none⟩,
    ⟨(some 9), .ext (.t 5) 0, none⟩,
    ⟨(some 10), .ext (.t 5) 1, none⟩,
    ⟨(some 1), .alloc [.bool false, .nils, .nils], none⟩,
    ⟨none, .st 3 (.t 1) (.t 9), none⟩,
    ⟨(some 2), .mv (.t 10), none⟩] (some [1, 2]))
  (.seq (.region [⟨(some 12), .call 59 [(.c (.int .i64 1))], none⟩,
    ⟨(some 13), .call 59 [(.c (.int .i64 2))], none⟩,
    ⟨(some 14), .call 22 [(.t 12), (.t 13)], none⟩,
    ⟨(some 11), .mv (.t 14), none⟩,
    ⟨(some 15), .ext (.t 11) 0, none⟩,
    ⟨(some 16), .ext (.t 11) 1, none⟩,
    ⟨(some 3), .mv (.t 15), none⟩,
    ⟨(some 4), .mv (.t 16), none⟩] (some [1, 2, 3, 4]))
  (.seq (.region [⟨(some 17), .mv (.t 2), none⟩,
    ⟨(some 18), .bin .eql (.t 17) (.c (.int .i64 0)), none⟩,
    ⟨(some 19), .mv (.t 18), none⟩,
    ⟨(some 20), .mv (.t 4), (some (19, true))⟩,
    ⟨(some 21), .bin .eql (.t 20) (.c (.int .i64 0)), (some (19, true))⟩,
    ⟨(some 22), .pick (.t 19) (.t 21) (.c (.bool false)), none⟩,
    ⟨(some 23), .mv (.t 22), none⟩,
    ⟨(some 24), .ld (some 3) (.t 1), (some (23, true))⟩,
    ⟨(some 25), .callF 53 [], (some (23, true))⟩,
    ⟨(some 26), .callF 24 [(.t 24), (.t 25)], (some (23, true))⟩,
    ⟨(some 27), .pick (.t 23) (.t 26) (.c (.bool false)), none⟩,
    ⟨(some 28), .mv (.t 27), none⟩,
    ⟨(some 29), .mv (.t 3), (some (28, true))⟩,
    ⟨(some 30), .lenS (.t 29), (some (28, true))⟩,
    ⟨(some 31), .bin .eql (.t 30) (.c (.int .i64 1)), (some (28, true))⟩,
    ⟨(some 32), .pick (.t 28) (.t 31) (.c (.bool false)), none⟩,
    ⟨(some 33), .mv (.t 32), none⟩,
    ⟨(some 34), .callF 59 [(.c (.int .i64 1))], (some (33, true))⟩,
    ⟨(some 35), .callF 59 [(.c (.int .i64 2))], (some (33, true))⟩,
    ⟨(some 36), .mv (.t 3), (some (33, true))⟩,
    ⟨(some 37), .callF 16 [(.t 34), (.t 35), (.t 36)], (some (33, true))⟩,
    ⟨(some 38), .pick (.t 33) (.t 37) (.c (.bool false)), none⟩,
    ⟨(some 39), .mv (.t 38), none⟩,
    ⟨(some 40), .callF 59 [(.c (.int .i64 1))], (some (39, true))⟩,
    ⟨(some 41), .callF 14 [(.t 40)], (some (39, true))⟩,
    ⟨(some 42), .pick (.t 39) (.t 41) (.c (.bool false)), none⟩,
    ⟨(some 0), .mv (.t 42), none⟩] (some [0]))
  .ret)))), [.t 0]⟩
theorem law35_alive_ok : cFn Tryz.prog (kps [[], [1, 2], [1, 2, 3, 4], [0]]) [] 19 = some law35_alive_c := by kernel_rfl

abbrev couple_Apart : Nat := 20
def couple_Apart_c : MFn :=
  ⟨50, (.seq (.region [⟨(some 4), .alloc [.bool false, .nils, .nils], none⟩,
    ⟨(some 5), .mv (.c (.int .i64 0)), none⟩] (some [0, 1, 4]))
  (.seq (.seq (.region [⟨(some 11), .mv (.t 0), none⟩,
    ⟨(some 12), .call 14 [(.t 11)], none⟩,
    ⟨(some 13), .un .not (.t 12), none⟩,
    ⟨(some 14), .mv (.t 13), none⟩,
    ⟨(some 15), .mv (.t 1), (some (14, false))⟩,
    ⟨(some 16), .call 14 [(.t 15)], (some (14, false))⟩,
    ⟨(some 17), .un .not (.t 16), (some (14, false))⟩,
    ⟨(some 18), .pick (.t 14) (.c (.bool true)) (.t 17), none⟩] (some [0, 1, 4, 18]))
  (.cond (.t 18)
    (.seq (.region [⟨(some 19), .build [.bool false, .nils, .nils] [], none⟩,
      ⟨none, .st 3 (.t 4) (.t 19), none⟩,
      ⟨(some 5), .mv (.c (.int .i64 1)), none⟩] (some [4, 5]))
    .ret)
    .skip))
  (.seq (.region [⟨(some 20), .call 41 [], none⟩,
    ⟨(some 6), .alloc [.bool false, .nils, .nils], none⟩,
    ⟨none, .st 3 (.t 6) (.t 20), none⟩] (some [0, 1, 4, 6]))
  (.seq (.seq (.region [⟨(some 21), .mv (.t 0), none⟩,
    ⟨(some 22), .lenS (.t 21), none⟩,
    ⟨(some 23), .mv (.c (.int .i64 0)), none⟩] (some [1, 4, 6, 21, 22, 23]))
  (.block 0 (.loop (.seq (.region [⟨(some 24), .bin .lss (.t 23) (.t 22), none⟩] (some [1, 4, 6, 21, 22, 23, 24]))
      (.seq (.cond (.t 24)
        .skip
        (.exit 0))
      (.seq (.block 1 (.seq (.region [⟨(some 25), .ixA 6 (.t 21) (.t 23), none⟩,
          ⟨(some 26), .ld (some 6) (.t 25), none⟩,
          ⟨(some 8), .alloc [.int .i64 0, .int .i64 0, .nils, .bool false, .nils, .nils], none⟩,
          ⟨none, .st 6 (.t 8) (.t 26), none⟩] (some [1, 4, 6, 8, 21, 22, 23]))
        (.seq (.region [⟨(some 27), .fA 3 (.t 8), none⟩,
          ⟨(some 28), .ld (some 3) (.t 27), none⟩,
          ⟨(some 9), .alloc [.bool false, .nils, .nils], none⟩,
          ⟨none, .st 3 (.t 9) (.t 28), none⟩] (some [1, 4, 6, 8, 9, 21, 22, 23]))
        (.seq (.seq (.region [⟨(some 29), .mv (.t 1), none⟩,
          ⟨(some 30), .fA 0 (.t 8), none⟩,
          ⟨(some 31), .ld (some 3) (.t 30), none⟩,
          ⟨(some 32), .call 60 [(.t 29), (.t 31)], none⟩,
          ⟨(some 10), .mv (.t 32), none⟩] (some [1, 4, 6, 9, 10, 21, 22, 23]))
        (.seq (.region [⟨(some 33), .mv (.t 10), none⟩,
          ⟨(some 34), .bin .geq (.t 33) (.c (.int .i64 0)), none⟩] (some [1, 4, 6, 9, 10, 21, 22, 23, 34]))
        (.cond (.t 34)
          (.region [⟨(some 35), .ld (some 3) (.t 9), none⟩,
            ⟨(some 36), .mv (.t 1), none⟩,
            ⟨(some 37), .mv (.t 10), none⟩,
            ⟨(some 38), .ixA 6 (.t 36) (.t 37), none⟩,
            ⟨(some 39), .fA 3 (.t 38), none⟩,
            ⟨(some 40), .ld (some 3) (.t 39), none⟩,
            ⟨(some 41), .callF 56 [(.t 35), (.t 40)], none⟩,
            ⟨none, .st 3 (.t 9) (.t 41), none⟩] (some [1, 4, 6, 9, 21, 22, 23]))
          .skip)))
        (.seq (.region [⟨(some 42), .fA 0 (.t 9), none⟩,
          ⟨(some 43), .ld none (.t 42), none⟩,
          ⟨(some 44), .un .not (.t 43), none⟩] (some [1, 4, 6, 9, 21, 22, 23, 44]))
        (.cond (.t 44)
          (.region [⟨(some 45), .ld (some 3) (.t 6), none⟩,
            ⟨(some 46), .ld (some 3) (.t 9), none⟩,
            ⟨(some 47), .call 46 [(.t 45), (.t 46)], none⟩,
            ⟨none, .st 3 (.t 6) (.t 47), none⟩] (some [1, 4, 6, 21, 22, 23]))
          .skip))))))
      (.region [⟨(some 48), .bin .add (.t 23) (.c (.int .i64 1)), none⟩,
        ⟨(some 23), .mv (.t 48), none⟩] (some [1, 4, 6, 21, 22, 23]))))))))
  (.seq (.region [⟨(some 49), .ld (some 3) (.t 6), none⟩,
    ⟨none, .st 3 (.t 4) (.t 49), none⟩,
    ⟨(some 5), .mv (.c (.int .i64 0)), none⟩] (some [4, 5]))
  .ret))))), [.cell 4 (some 3), .t 5]⟩
theorem couple_Apart_ok : cFn Tryz.prog (kps [[0, 1, 4], [0, 1, 4, 18], [4, 5], [0, 1, 4, 6], [1, 4, 6, 21, 22, 23], [1, 4, 6, 21, 22, 23, 24], [1, 4, 6, 8, 21, 22, 23], [1, 4, 6, 8, 9, 21, 22, 23], [1, 4, 6, 9, 10, 21, 22, 23], [1, 4, 6, 9, 10, 21, 22, 23, 34], [1, 4, 6, 9, 21, 22, 23], [1, 4, 6, 9, 21, 22, 23, 44], [1, 4, 6, 21, 22, 23], [1, 4, 6, 21, 22, 23], [4, 5]]) [] 20 = some couple_Apart_c := by kernel_rfl

abbrev ref35_Apart : Nat := 21
def ref35_Apart_c : MFn :=
  ⟨53, (.seq (.region [⟨(some 4), .alloc [.bool false, .nils, .nils], none⟩,
    ⟨(some 5), .mv (.c (.int .i64 0)), none⟩] (some [0, 1, 4]))
  (.seq (.seq (.region [⟨(some 12), .mv (.t 0), none⟩,
    ⟨(some 13), .call 15 [(.t 12)], none⟩,
    ⟨(some 14), .un .not (.t 13), none⟩,
    ⟨(some 15), .mv (.t 14), none⟩,
    ⟨(some 16), .mv (.t 1), (some (15, false))⟩,
    ⟨(some 17), .call 15 [(.t 16)], (some (15, false))⟩,
    ⟨(some 18), .un .not (.t 17), (some (15, false))⟩,
    ⟨(some 19), .pick (.t 15) (.c (.bool true)) (.t 18), none⟩] (some [0, 1, 4, 19]))
  (.cond (.t 19)
    (.seq (.region [⟨(some 20), .build [.bool false, .nils, .nils] [], none⟩,
      ⟨none, .st 3 (.t 4) (.t 20), none⟩,
      ⟨(some 5), .mv (.c (.int .i64 1)), none⟩] (some [4, 5]))
    .ret)
    .skip))
  (.seq (.region [⟨(some 21), .call 29 [], none⟩,
    ⟨(some 6), .alloc [.bool false, .nils, .nils], none⟩,
    ⟨none, .st 3 (.t 6) (.t 21), none⟩] (some [0, 1, 4, 6]))
  (.seq (.seq (.region [⟨(some 22), .mv (.t 0), none⟩,
    ⟨(some 23), .mv (.t 1), none⟩,
    ⟨(some 24), .call 28 [(.t 22), (.t 23)], none⟩,
    ⟨(some 25), .lenS (.t 24), none⟩,
    ⟨(some 26), .mv (.c (.int .i64 0)), none⟩] (some [0, 1, 4, 6, 24, 25, 26]))
  (.block 0 (.loop (.seq (.region [⟨(some 27), .bin .lss (.t 26) (.t 25), none⟩] (some [0, 1, 4, 6, 24, 25, 26, 27]))
      (.seq (.cond (.t 27)
        .skip
        (.exit 0))
      (.seq (.block 1 (.seq (.region [⟨(some 28), .ixA 3 (.t 24) (.t 26), none⟩,
          ⟨(some 29), .ld (some 3) (.t 28), none⟩,
          ⟨(some 8), .alloc [.int .i64 0, .int .i64 0, .nils], none⟩,
          ⟨none, .st 3 (.t 8) (.t 29), none⟩] (some [0, 1, 4, 6, 8, 24, 25, 26]))
        (.seq (.region [⟨(some 30), .mv (.t 0), none⟩,
          ⟨(some 31), .ld (some 3) (.t 8), none⟩,
          ⟨(some 32), .callF 32 [(.t 30), (.t 31)], none⟩,
          ⟨(some 33), .mv (.t 1), none⟩,
          ⟨(some 34), .ld (some 3) (.t 8), none⟩,
          ⟨(some 35), .callF 32 [(.t 33), (.t 34)], none⟩,
          ⟨(some 36), .callF 31 [(.t 32), (.t 35)], none⟩,
          ⟨(some 9), .alloc [.bool false, .nils, .nils], none⟩,
          ⟨none, .st 3 (.t 9) (.t 36), none⟩] (some [0, 1, 4, 6, 9, 24, 25, 26]))
        (.seq (.seq (.region [⟨(some 37), .ld (some 3) (.t 9), none⟩,
          ⟨(some 38), .call 51 [(.t 37)], none⟩,
          ⟨(some 39), .bin .lss (.t 38) (.c (.int .i64 0)), none⟩] (some [0, 1, 4, 6, 9, 24, 25, 26, 39]))
        (.cond (.t 39)
          (.region [⟨(some 40), .ld (some 3) (.t 9), none⟩,
            ⟨(some 41), .call 61 [(.t 40)], none⟩,
            ⟨none, .st 3 (.t 9) (.t 41), none⟩] (some [0, 1, 4, 6, 9, 24, 25, 26]))
          .skip))
        (.region [⟨(some 42), .ld (some 3) (.t 6), none⟩,
          ⟨(some 43), .ld (some 3) (.t 9), none⟩,
          ⟨(some 44), .call 30 [(.t 42), (.t 43)], none⟩,
          ⟨none, .st 3 (.t 6) (.t 44), none⟩] (some [0, 1, 4, 6, 24, 25, 26]))))))
      (.region [⟨(some 45), .bin .add (.t 26) (.c (.int .i64 1)), none⟩,
        ⟨(some 26), .mv (.t 45), none⟩] (some [0, 1, 4, 6, 24, 25, 26]))))))))
  (.seq (.region [⟨(some 47), .call 62 [(.c (.int .i64 1)), (.c (.int .i64 2))], none⟩,
    ⟨(some 46), .mv (.t 47), none⟩,
    ⟨(some 48), .ext (.t 46) 0, none⟩,
    ⟨(some 49), .ext (.t 46) 1, none⟩,
    ⟨(some 10), .alloc [.bool false, .nils, .nils], none⟩,
    ⟨none, .st 3 (.t 10) (.t 48), none⟩,
    ⟨(some 11), .mv (.t 49), none⟩] (some [4, 6, 10]))
  (.seq (.region [⟨(some 50), .ld (some 3) (.t 6), none⟩,
    ⟨(some 51), .ld (some 3) (.t 10), none⟩,
    ⟨(some 52), .call 63 [(.t 50), (.t 51)], none⟩,
    ⟨none, .st 3 (.t 4) (.t 52), none⟩,
    ⟨(some 5), .mv (.c (.int .i64 0)), none⟩] (some [4, 5]))
  .ret)))))), [.cell 4 (some 3), .t 5]⟩
theorem ref35_Apart_ok : cFn Tryz.prog (kps [[0, 1, 4], [0, 1, 4, 19], [4, 5], [0, 1, 4, 6], [0, 1, 4, 6, 24, 25, 26], [0, 1, 4, 6, 24, 25, 26, 27], [0, 1, 4, 6, 8, 24, 25, 26], [0, 1, 4, 6, 9, 24, 25, 26], [0, 1, 4, 6, 9, 24, 25, 26, 39], [0, 1, 4, 6, 9, 24, 25, 26], [0, 1, 4, 6, 24, 25, 26], [0, 1, 4, 6, 24, 25, 26], [4, 6, 10], [4, 5]]) [] 21 = some ref35_Apart_c := by kernel_rfl

abbrev couple_Best : Nat := 22
def couple_Best_c : MFn :=
  ⟨79, (.seq (.region [⟨(some 4), .mv (.c (.nils)), none⟩,
    ⟨(some 5), .mv (.c (.int .i64 0)), none⟩] (some [0, 1]))
  (.seq (.seq (.region [⟨(some 13), .mv (.t 0), none⟩,
    ⟨(some 14), .call 14 [(.t 13)], none⟩,
    ⟨(some 15), .un .not (.t 14), none⟩,
    ⟨(some 16), .mv (.t 15), none⟩,
    ⟨(some 17), .mv (.t 1), (some (16, false))⟩,
    ⟨(some 18), .call 14 [(.t 17)], (some (16, false))⟩,
    ⟨(some 19), .un .not (.t 18), (some (16, false))⟩,
    ⟨(some 20), .pick (.t 16) (.c (.bool true)) (.t 19), none⟩] (some [0, 1, 20]))
  (.cond (.t 20)
    (.seq (.region [⟨(some 4), .mv (.c (.nils)), none⟩,
      ⟨(some 5), .mv (.c (.int .i64 1)), none⟩] (some [4, 5]))
    .ret)
    .skip))
  (.seq (.region [⟨(some 21), .mv (.t 0), none⟩,
    ⟨(some 22), .call 54 [(.t 21)], none⟩,
    ⟨(some 23), .mv (.t 1), none⟩,
    ⟨(some 24), .call 54 [(.t 23)], none⟩,
    ⟨(some 6), .mv (.t 22), none⟩,
    ⟨(some 7), .mv (.t 24), none⟩] (some [0, 1, 6, 7]))
  (.seq (.region [⟨(some 8), .mv (.c (.nils)), none⟩] (some [0, 1, 6, 7, 8]))
  (.seq (.seq (.region [⟨(some 25), .mv (.t 0), none⟩,
    ⟨(some 26), .lenS (.t 25), none⟩,
    ⟨(some 27), .mv (.c (.int .i64 0)), none⟩] (some [1, 6, 7, 8, 25, 26, 27]))
  (.block 0 (.loop (.seq (.region [⟨(some 28), .bin .lss (.t 27) (.t 26), none⟩] (some [1, 6, 7, 8, 25, 26, 27, 28]))
      (.seq (.cond (.t 28)
        .skip
        (.exit 0))
      (.seq (.block 1 (.seq (.region [⟨(some 29), .mv (.t 27), none⟩,
          ⟨(some 30), .ixA 6 (.t 25) (.t 27), none⟩,
          ⟨(some 31), .ld (some 6) (.t 30), none⟩,
          ⟨(some 10), .alloc [.int .i64 0, .int .i64 0, .nils, .bool false, .nils, .nils], none⟩,
          ⟨(some 9), .mv (.t 29), none⟩,
          ⟨none, .st 6 (.t 10) (.t 31), none⟩] (some [1, 6, 7, 8, 9, 10, 25, 26, 27]))
        (.seq (.region [⟨(some 32), .mv (.t 1), none⟩,
          ⟨(some 33), .fA 0 (.t 10), none⟩,
          ⟨(some 34), .ld (some 3) (.t 33), none⟩,
          ⟨(some 35), .call 60 [(.t 32), (.t 34)], none⟩,
          ⟨(some 11), .mv (.t 35), none⟩] (some [1, 6, 7, 8, 9, 11, 25, 26, 27]))
        (.seq (.region [⟨(some 36), .mv (.t 11), none⟩,
          ⟨(some 37), .bin .geq (.t 36) (.c (.int .i64 0)), none⟩] (some [1, 6, 7, 8, 9, 11, 25, 26, 27, 37]))
        (.cond (.t 37)
          (.seq (.region [⟨(some 38), .mv (.t 6), none⟩,
            ⟨(some 39), .mv (.t 9), none⟩,
            ⟨(some 40), .ixA 3 (.t 38) (.t 39), none⟩,
            ⟨(some 41), .ld (some 3) (.t 40), none⟩,
            ⟨(some 42), .mv (.t 7), none⟩,
            ⟨(some 43), .mv (.t 11), none⟩,
            ⟨(some 44), .ixA 3 (.t 42) (.t 43), none⟩,
            ⟨(some 45), .ld (some 3) (.t 44), none⟩,
            ⟨(some 46), .callF 64 [(.t 41), (.t 45)], none⟩,
            ⟨(some 12), .alloc [.bool false, .nils, .nils], none⟩,
            ⟨none, .st 3 (.t 12) (.t 46), none⟩] (some [1, 6, 7, 8, 9, 11, 12, 25, 26, 27]))
          (.seq (.region [⟨(some 47), .mv (.t 8), none⟩,
            ⟨(some 48), .mv (.t 9), none⟩,
            ⟨(some 49), .mv (.t 11), none⟩,
            ⟨(some 50), .ld (some 3) (.t 12), none⟩,
            ⟨(some 51), .build [.int .i64 0, .int .i64 0, .bool false, .nils, .nils] [(0, 1, (.t 48)), (1, 1, (.t 49)), (2, 3, (.t 50))], none⟩,
            ⟨(some 52), .buildSl 5 1 [.int .i64 0, .int .i64 0, .bool false, .nils, .nils] [(0, (.t 51))], none⟩,
            ⟨(some 53), .app 5 72 (.t 47) (.t 52), none⟩,
            ⟨(some 8), .mv (.t 53), none⟩] (some [1, 6, 7, 8, 9, 11, 12, 25, 26, 27]))
          (.region [⟨(some 54), .mv (.t 6), none⟩,
            ⟨(some 55), .mv (.t 9), none⟩,
            ⟨(some 56), .mv (.t 7), none⟩,
            ⟨(some 57), .mv (.t 11), none⟩,
            ⟨(some 58), .mv (.t 6), none⟩,
            ⟨(some 59), .mv (.t 9), none⟩,
            ⟨(some 60), .ixA 3 (.t 58) (.t 59), none⟩,
            ⟨(some 61), .ld (some 3) (.t 60), none⟩,
            ⟨(some 62), .ld (some 3) (.t 12), none⟩,
            ⟨(some 63), .callF 56 [(.t 61), (.t 62)], none⟩,
            ⟨(some 64), .mv (.t 7), none⟩,
            ⟨(some 65), .mv (.t 11), none⟩,
            ⟨(some 66), .ixA 3 (.t 64) (.t 65), none⟩,
            ⟨(some 67), .ld (some 3) (.t 66), none⟩,
            ⟨(some 68), .ld (some 3) (.t 12), none⟩,
            ⟨(some 69), .callF 56 [(.t 67), (.t 68)], none⟩,
            ⟨(some 70), .ixA 3 (.t 54) (.t 55), none⟩,
            ⟨none, .st 3 (.t 70) (.t 63), none⟩,
            ⟨(some 71), .ixA 3 (.t 56) (.t 57), none⟩,
            ⟨none, .st 3 (.t 71) (.t 69), none⟩] (some [1, 6, 7, 8, 25, 26, 27]))))
          .skip)))))
      (.region [⟨(some 72), .bin .add (.t 27) (.c (.int .i64 1)), none⟩,
        ⟨(some 27), .mv (.t 72), none⟩] (some [1, 6, 7, 8, 25, 26, 27]))))))))
  (.seq (.region [⟨(some 73), .mv (.t 8), none⟩,
    ⟨(some 74), .mv (.t 6), none⟩,
    ⟨(some 75), .mv (.t 7), none⟩,
    ⟨(some 76), .call 66 [(.t 74), (.t 75)], none⟩,
    ⟨(some 77), .app 5 72 (.t 73) (.t 76), none⟩,
    ⟨(some 78), .call 65 [(.t 77)], none⟩,
    ⟨(some 4), .mv (.t 78), none⟩,
    ⟨(some 5), .mv (.c (.int .i64 0)), none⟩] (some [4, 5]))
  .ret)))))), [.t 4, .t 5]⟩
theorem couple_Best_ok : cFn Tryz.prog (kps [[0, 1], [0, 1, 20], [4, 5], [0, 1, 6, 7], [0, 1, 6, 7, 8], [1, 6, 7, 8, 25, 26, 27], [1, 6, 7, 8, 25, 26, 27, 28], [1, 6, 7, 8, 9, 10, 25, 26, 27], [1, 6, 7, 8, 9, 11, 25, 26, 27], [1, 6, 7, 8, 9, 11, 25, 26, 27, 37], [1, 6, 7, 8, 9, 11, 12, 25, 26, 27], [1, 6, 7, 8, 9, 11, 12, 25, 26, 27], [1, 6, 7, 8, 25, 26, 27], [1, 6, 7, 8, 25, 26, 27], [4, 5]]) [] 22 = some couple_Best_c := by kernel_rfl

abbrev ref35_Best : Nat := 23
def ref35_Best_c : MFn :=
  ⟨84, (.seq (.region [⟨(some 4), .mv (.c (.nils)), none⟩,
    ⟨(some 5), .mv (.c (.int .i64 0)), none⟩] (some [0, 1]))
  (.seq (.seq (.region [⟨(some 14), .mv (.t 0), none⟩,
    ⟨(some 15), .call 15 [(.t 14)], none⟩,
    ⟨(some 16), .un .not (.t 15), none⟩,
    ⟨(some 17), .mv (.t 16), none⟩,
    ⟨(some 18), .mv (.t 1), (some (17, false))⟩,
    ⟨(some 19), .call 15 [(.t 18)], (some (17, false))⟩,
    ⟨(some 20), .un .not (.t 19), (some (17, false))⟩,
    ⟨(some 21), .pick (.t 17) (.c (.bool true)) (.t 20), none⟩] (some [0, 1, 21]))
  (.cond (.t 21)
    (.seq (.region [⟨(some 4), .mv (.c (.nils)), none⟩,
      ⟨(some 5), .mv (.c (.int .i64 1)), none⟩] (some [4, 5]))
    .ret)
    .skip))
  (.seq (.region [⟨(some 22), .mv (.t 0), none⟩,
    ⟨(some 23), .call 67 [(.t 22)], none⟩,
    ⟨(some 24), .mv (.t 1), none⟩,
    ⟨(some 25), .call 67 [(.t 24)], none⟩,
    ⟨(some 6), .mv (.t 23), none⟩,
    ⟨(some 7), .mv (.t 25), none⟩] (some [0, 1, 6, 7]))
  (.seq (.region [⟨(some 8), .mv (.c (.nils)), none⟩] (some [0, 1, 6, 7, 8]))
  (.seq (.seq (.region [⟨(some 26), .mv (.t 0), none⟩,
    ⟨(some 27), .lenS (.t 26), none⟩,
    ⟨(some 28), .mv (.c (.int .i64 0)), none⟩] (some [1, 6, 7, 8, 26, 27, 28]))
  (.block 0 (.loop (.seq (.region [⟨(some 29), .bin .lss (.t 28) (.t 27), none⟩] (some [1, 6, 7, 8, 26, 27, 28, 29]))
      (.seq (.cond (.t 29)
        .skip
        (.exit 0))
      (.seq (.block 1 (.seq (.region [⟨(some 30), .mv (.t 28), none⟩,
          ⟨(some 31), .ixA 6 (.t 26) (.t 28), none⟩,
          ⟨(some 32), .ld (some 6) (.t 31), none⟩,
          ⟨(some 10), .alloc [.int .i64 0, .int .i64 0, .nils, .bool false, .nils, .nils], none⟩,
          ⟨(some 9), .mv (.t 30), none⟩,
          ⟨none, .st 6 (.t 10) (.t 32), none⟩] (some [1, 6, 7, 8, 9, 10, 26, 27, 28]))
        (.seq (.region [⟨(some 33), .mv (.t 1), none⟩,
          ⟨(some 34), .lenS (.t 33), none⟩,
          ⟨(some 35), .mv (.c (.int .i64 0)), none⟩] (some [1, 6, 7, 8, 9, 10, 26, 27, 28, 33, 34, 35]))
        (.block 2 (.loop (.seq (.region [⟨(some 36), .bin .lss (.t 35) (.t 34), none⟩] (some [1, 6, 7, 8, 9, 10, 26, 27, 28, 33, 34, 35, 36]))
            (.seq (.cond (.t 36)
              .skip
              (.exit 2))
            (.seq (.block 3 (.seq (.region [⟨(some 37), .mv (.t 35), none⟩,
                ⟨(some 38), .ixA 6 (.t 33) (.t 35), none⟩,
                ⟨(some 39), .ld (some 6) (.t 38), none⟩,
                ⟨(some 12), .alloc [.int .i64 0, .int .i64 0, .nils, .bool false, .nils, .nils], none⟩,
                ⟨(some 11), .mv (.t 37), none⟩,
                ⟨none, .st 6 (.t 12) (.t 39), none⟩] (some [1, 6, 7, 8, 9, 10, 11, 12, 26, 27, 28, 33, 34, 35]))
              (.seq (.region [⟨(some 40), .fA 0 (.t 10), none⟩,
                ⟨(some 41), .ld (some 3) (.t 40), none⟩,
                ⟨(some 42), .fA 0 (.t 12), none⟩,
                ⟨(some 43), .ld (some 3) (.t 42), none⟩,
                ⟨(some 44), .call 68 [(.t 41), (.t 43)], none⟩] (some [1, 6, 7, 8, 9, 10, 11, 26, 27, 28, 33, 34, 35, 44]))
              (.cond (.t 44)
                (.seq (.region [⟨(some 45), .mv (.t 6), none⟩,
                  ⟨(some 46), .mv (.t 9), none⟩,
                  ⟨(some 47), .ixA 3 (.t 45) (.t 46), none⟩,
                  ⟨(some 48), .ld (some 3) (.t 47), none⟩,
                  ⟨(some 49), .mv (.t 7), none⟩,
                  ⟨(some 50), .mv (.t 11), none⟩,
                  ⟨(some 51), .ixA 3 (.t 49) (.t 50), none⟩,
                  ⟨(some 52), .ld (some 3) (.t 51), none⟩,
                  ⟨(some 53), .callF 69 [(.t 48), (.t 52)], none⟩,
                  ⟨(some 13), .alloc [.bool false, .nils, .nils], none⟩,
                  ⟨none, .st 3 (.t 13) (.t 53), none⟩] (some [1, 6, 7, 8, 9, 10, 11, 13, 26, 27, 28, 33, 34, 35]))
                (.seq (.region [⟨(some 54), .mv (.t 8), none⟩,
                  ⟨(some 55), .mv (.t 9), none⟩,
                  ⟨(some 56), .mv (.t 11), none⟩,
                  ⟨(some 57), .ld (some 3) (.t 13), none⟩,
                  ⟨(some 58), .build [.int .i64 0, .int .i64 0, .bool false, .nils, .nils] [(0, 1, (.t 55)), (1, 1, (.t 56)), (2, 3, (.t 57))], none⟩,
                  ⟨(some 59), .call 70 [(.t 54), (.t 58)], none⟩,
                  ⟨(some 8), .mv (.t 59), none⟩] (some [1, 6, 7, 8, 9, 10, 11, 13, 26, 27, 28, 33, 34, 35]))
                (.region [⟨(some 60), .mv (.t 6), none⟩,
                  ⟨(some 61), .mv (.t 9), none⟩,
                  ⟨(some 62), .mv (.t 7), none⟩,
                  ⟨(some 63), .mv (.t 11), none⟩,
                  ⟨(some 64), .mv (.t 6), none⟩,
                  ⟨(some 65), .mv (.t 9), none⟩,
                  ⟨(some 66), .ixA 3 (.t 64) (.t 65), none⟩,
                  ⟨(some 67), .ld (some 3) (.t 66), none⟩,
                  ⟨(some 68), .ld (some 3) (.t 13), none⟩,
                  ⟨(some 69), .callF 31 [(.t 67), (.t 68)], none⟩,
                  ⟨(some 70), .mv (.t 7), none⟩,
                  ⟨(some 71), .mv (.t 11), none⟩,
                  ⟨(some 72), .ixA 3 (.t 70) (.t 71), none⟩,
                  ⟨(some 73), .ld (some 3) (.t 72), none⟩,
                  ⟨(some 74), .ld (some 3) (.t 13), none⟩,
                  ⟨(some 75), .callF 31 [(.t 73), (.t 74)], none⟩,
                  ⟨(some 76), .ixA 3 (.t 60) (.t 61), none⟩,
                  ⟨none, .st 3 (.t 76) (.t 69), none⟩,
                  ⟨(some 77), .ixA 3 (.t 62) (.t 63), none⟩,
                  ⟨none, .st 3 (.t 77) (.t 75), none⟩] (some [1, 6, 7, 8, 9, 10, 26, 27, 28, 33, 34, 35]))))
                .skip))))
            (.region [⟨(some 78), .bin .add (.t 35) (.c (.int .i64 1)), none⟩,
              ⟨(some 35), .mv (.t 78), none⟩] (some [1, 6, 7, 8, 9, 10, 26, 27, 28, 33, 34, 35]))))))))))
      (.region [⟨(some 79), .bin .add (.t 28) (.c (.int .i64 1)), none⟩,
        ⟨(some 28), .mv (.t 79), none⟩] (some [1, 6, 7, 8, 26, 27, 28]))))))))
  (.seq (.region [⟨(some 80), .mv (.t 8), none⟩,
    ⟨(some 81), .mv (.t 6), none⟩,
    ⟨(some 82), .mv (.t 7), none⟩,
    ⟨(some 83), .call 71 [(.t 80), (.t 81), (.t 82)], none⟩,
    ⟨(some 4), .mv (.t 83), none⟩,
    ⟨(some 5), .mv (.c (.int .i64 0)), none⟩] (some [4, 5]))
  .ret)))))), [.t 4, .t 5]⟩
theorem ref35_Best_ok : cFn Tryz.prog (kps [[0, 1], [0, 1, 21], [4, 5], [0, 1, 6, 7], [0, 1, 6, 7, 8], [1, 6, 7, 8, 26, 27, 28], [1, 6, 7, 8, 26, 27, 28, 29], [1, 6, 7, 8, 9, 10, 26, 27, 28], [1, 6, 7, 8, 9, 10, 26, 27, 28, 33, 34, 35], [1, 6, 7, 8, 9, 10, 26, 27, 28, 33, 34, 35, 36], [1, 6, 7, 8, 9, 10, 11, 12, 26, 27, 28, 33, 34, 35], [1, 6, 7, 8, 9, 10, 11, 26, 27, 28, 33, 34, 35, 44], [1, 6, 7, 8, 9, 10, 11, 13, 26, 27, 28, 33, 34, 35], [1, 6, 7, 8, 9, 10, 11, 13, 26, 27, 28, 33, 34, 35], [1, 6, 7, 8, 9, 10, 26, 27, 28, 33, 34, 35], [1, 6, 7, 8, 9, 10, 26, 27, 28, 33, 34, 35], [1, 6, 7, 8, 26, 27, 28], [4, 5]]) [] 23 = some ref35_Best_c := by kernel_rfl

abbrev law35_same : Nat := 25
def law35_same_c : MFn :=
  ⟨55, (.seq (.region [⟨(some 4), .mv (.c (.bool false)), none⟩] (some [0, 1]))
  (.seq (.seq (.region [⟨(some 6), .mv (.t 0), none⟩,
    ⟨(some 7), .lenS (.t 6), none⟩,
    ⟨(some 8), .mv (.t 1), none⟩,
    ⟨(some 9), .lenS (.t 8), none⟩,
    ⟨(some 10), .bin .neq (.t 7) (.t 9), none⟩] (some [0, 1, 10]))
  (.cond (.t 10)
    (.seq (.region [⟨(some 4), .mv (.c (.bool false)), none⟩] (some [4]))
    .ret)
    .skip))
  (.seq (.seq (.region [⟨(some 11), .mv (.t 0), none⟩,
    ⟨(some 12), .lenS (.t 11), none⟩,
    ⟨(some 13), .mv (.c (.int .i64 0)), none⟩] (some [0, 1, 12, 13]))
  (.block 0 (.loop (.seq (.region [⟨(some 14), .bin .lss (.t 13) (.t 12), none⟩] (some [0, 1, 12, 13, 14]))
      (.seq (.cond (.t 14)
        .skip
        (.exit 0))
      (.seq (.block 1 (.seq (.region [⟨(some 15), .mv (.t 13), none⟩,
          ⟨(some 5), .mv (.t 15), none⟩] (some [0, 1, 5, 12, 13]))
        (.seq (.region [⟨(some 16), .mv (.t 0), none⟩,
          ⟨(some 17), .mv (.t 5), none⟩,
          ⟨(some 18), .ixA 5 (.t 16) (.t 17), none⟩,
          ⟨(some 19), .fA 0 (.t 18), none⟩,
          ⟨(some 20), .ld none (.t 19), none⟩,
          ⟨(some 21), .mv (.t 1), none⟩,
          ⟨(some 22), .mv (.t 5), none⟩,
          ⟨(some 23), .ixA 5 (.t 21) (.t 22), none⟩,
          ⟨(some 24), .fA 0 (.t 23), none⟩,
          ⟨(some 25), .ld none (.t 24), none⟩,
          ⟨(some 26), .bin .neq (.t 20) (.t 25), none⟩,
          ⟨(some 27), .mv (.t 26), none⟩,
          ⟨(some 28), .mv (.t 0), (some (27, false))⟩,
          ⟨(some 29), .mv (.t 5), (some (27, false))⟩,
          ⟨(some 30), .ixA 5 (.t 28) (.t 29), (some (27, false))⟩,
          ⟨(some 31), .fA 1 (.t 30), (some (27, false))⟩,
          ⟨(some 32), .ld none (.t 31), (some (27, false))⟩,
          ⟨(some 33), .mv (.t 1), (some (27, false))⟩,
          ⟨(some 34), .mv (.t 5), (some (27, false))⟩,
          ⟨(some 35), .ixA 5 (.t 33) (.t 34), (some (27, false))⟩,
          ⟨(some 36), .fA 1 (.t 35), (some (27, false))⟩,
          ⟨(some 37), .ld none (.t 36), (some (27, false))⟩,
          ⟨(some 38), .bin .neq (.t 32) (.t 37), (some (27, false))⟩,
          ⟨(some 39), .pick (.t 27) (.c (.bool true)) (.t 38), none⟩,
          ⟨(some 40), .mv (.t 39), none⟩,
          ⟨(some 41), .mv (.t 0), (some (40, false))⟩,
          ⟨(some 42), .mv (.t 5), (some (40, false))⟩,
          ⟨(some 43), .ixA 5 (.t 41) (.t 42), (some (40, false))⟩,
          ⟨(some 44), .fA 2 (.t 43), (some (40, false))⟩,
          ⟨(some 45), .ld (some 3) (.t 44), (some (40, false))⟩,
          ⟨(some 46), .mv (.t 1), (some (40, false))⟩,
          ⟨(some 47), .mv (.t 5), (some (40, false))⟩,
          ⟨(some 48), .ixA 5 (.t 46) (.t 47), (some (40, false))⟩,
          ⟨(some 49), .fA 2 (.t 48), (some (40, false))⟩,
          ⟨(some 50), .ld (some 3) (.t 49), (some (40, false))⟩,
          ⟨(some 51), .callF 24 [(.t 45), (.t 50)], (some (40, false))⟩,
          ⟨(some 52), .un .not (.t 51), (some (40, false))⟩,
          ⟨(some 53), .pick (.t 40) (.c (.bool true)) (.t 52), none⟩] (some [0, 1, 12, 13, 53]))
        (.cond (.t 53)
          (.seq (.region [⟨(some 4), .mv (.c (.bool false)), none⟩] (some [4]))
          .ret)
          .skip))))
      (.region [⟨(some 54), .bin .add (.t 13) (.c (.int .i64 1)), none⟩,
        ⟨(some 13), .mv (.t 54), none⟩] (some [0, 1, 12, 13]))))))))
  (.seq (.region [⟨(some 4), .mv (.c (.bool true)), none⟩] (some [4]))
  .ret)))), [.t 4]⟩
theorem law35_same_ok : cFn Tryz.prog (kps [[0, 1], [0, 1, 10], [4], [0, 1, 12, 13], [0, 1, 12, 13, 14], [0, 1, 5, 12, 13], [0, 1, 12, 13, 53], [4], [0, 1, 12, 13], [4]]) [] 25 = some law35_same_c := by kernel_rfl

abbrev law35_off : Nat := 26
def law35_off_c : MFn :=
  ⟨44, (.seq (.region [⟨(some 6), .alloc [.bool false, .nils, .nils], none⟩] (some [0, 1, 2, 6]))
  (.seq (.region [⟨(some 9), .call 29 [], none⟩,
    ⟨(some 7), .alloc [.bool false, .nils, .nils], none⟩,
    ⟨none, .st 3 (.t 7) (.t 9), none⟩] (some [0, 1, 2, 6, 7]))
  (.seq (.seq (.region [⟨(some 10), .mv (.t 2), none⟩,
    ⟨(some 11), .lenS (.t 10), none⟩,
    ⟨(some 12), .mv (.c (.int .i64 0)), none⟩] (some [0, 1, 2, 6, 7, 11, 12]))
  (.block 0 (.loop (.seq (.region [⟨(some 13), .bin .lss (.t 12) (.t 11), none⟩] (some [0, 1, 2, 6, 7, 11, 12, 13]))
      (.seq (.cond (.t 13)
        .skip
        (.exit 0))
      (.seq (.block 1 (.seq (.region [⟨(some 14), .mv (.t 12), none⟩,
          ⟨(some 8), .mv (.t 14), none⟩] (some [0, 1, 2, 6, 7, 8, 11, 12]))
        (.seq (.region [⟨(some 15), .mv (.t 0), none⟩,
          ⟨(some 16), .mv (.t 2), none⟩,
          ⟨(some 17), .mv (.t 8), none⟩,
          ⟨(some 18), .ixA 5 (.t 16) (.t 17), none⟩,
          ⟨(some 19), .fA 0 (.t 18), none⟩,
          ⟨(some 20), .ld none (.t 19), none⟩,
          ⟨(some 21), .ixA 6 (.t 15) (.t 20), none⟩,
          ⟨(some 22), .fA 0 (.t 21), none⟩,
          ⟨(some 23), .ld (some 3) (.t 22), none⟩,
          ⟨(some 24), .mv (.t 1), none⟩,
          ⟨(some 25), .mv (.t 2), none⟩,
          ⟨(some 26), .mv (.t 8), none⟩,
          ⟨(some 27), .ixA 5 (.t 25) (.t 26), none⟩,
          ⟨(some 28), .fA 1 (.t 27), none⟩,
          ⟨(some 29), .ld none (.t 28), none⟩,
          ⟨(some 30), .ixA 6 (.t 24) (.t 29), none⟩,
          ⟨(some 31), .fA 0 (.t 30), none⟩,
          ⟨(some 32), .ld (some 3) (.t 31), none⟩,
          ⟨(some 33), .callF 68 [(.t 23), (.t 32)], none⟩,
          ⟨(some 34), .un .not (.t 33), none⟩] (some [0, 1, 2, 6, 7, 8, 11, 12, 34]))
        (.cond (.t 34)
          (.region [⟨(some 35), .ld (some 3) (.t 7), none⟩,
            ⟨(some 36), .mv (.t 2), none⟩,
            ⟨(some 37), .mv (.t 8), none⟩,
            ⟨(some 38), .ixA 5 (.t 36) (.t 37), none⟩,
            ⟨(some 39), .fA 2 (.t 38), none⟩,
            ⟨(some 40), .ld (some 3) (.t 39), none⟩,
            ⟨(some 41), .callF 30 [(.t 35), (.t 40)], none⟩,
            ⟨none, .st 3 (.t 7) (.t 41), none⟩] (some [0, 1, 2, 6, 7, 11, 12]))
          .skip))))
      (.region [⟨(some 42), .bin .add (.t 12) (.c (.int .i64 1)), none⟩,
        ⟨(some 12), .mv (.t 42), none⟩] (some [0, 1, 2, 6, 7, 11, 12]))))))))
  (.seq (.region [⟨(some 43), .ld (some 3) (.t 7), none⟩,
    ⟨none, .st 3 (.t 6) (.t 43), none⟩] (some [6]))
  .ret)))), [.cell 6 (some 3)]⟩
theorem law35_off_ok : cFn Tryz.prog (kps [[0, 1, 2, 6], [0, 1, 2, 6, 7], [0, 1, 2, 6, 7, 11, 12], [0, 1, 2, 6, 7, 11, 12, 13], [0, 1, 2, 6, 7, 8, 11, 12], [0, 1, 2, 6, 7, 8, 11, 12, 34], [0, 1, 2, 6, 7, 11, 12], [0, 1, 2, 6, 7, 11, 12], [6]]) [] 26 = some law35_off_c := by kernel_rfl

abbrev ref35_Values : Nat := 28
def ref35_Values_c : MFn :=
  ⟨41, (.seq (.region [⟨(some 4), .mv (.c (.nils)), none⟩] (some [0, 1]))
  (.seq (.region [⟨(some 5), .mv (.c (.nils)), none⟩] (some [0, 1, 5]))
  (.seq (.seq (.region [⟨(some 10), .mv (.t 0), none⟩,
    ⟨(some 11), .lenS (.t 10), none⟩,
    ⟨(some 12), .mv (.c (.int .i64 0)), none⟩] (some [0, 1, 5, 10, 11, 12]))
  (.block 0 (.loop (.seq (.region [⟨(some 13), .bin .lss (.t 12) (.t 11), none⟩] (some [0, 1, 5, 10, 11, 12, 13]))
      (.seq (.cond (.t 13)
        .skip
        (.exit 0))
      (.seq (.block 1 (.seq (.region [⟨(some 14), .ixA 6 (.t 10) (.t 12), none⟩,
          ⟨(some 15), .ld (some 6) (.t 14), none⟩,
          ⟨(some 7), .alloc [.int .i64 0, .int .i64 0, .nils, .bool false, .nils, .nils], none⟩,
          ⟨none, .st 6 (.t 7) (.t 15), none⟩] (some [0, 1, 5, 7, 10, 11, 12]))
        (.region [⟨(some 16), .mv (.t 5), none⟩,
          ⟨(some 17), .fA 0 (.t 7), none⟩,
          ⟨(some 18), .ld (some 3) (.t 17), none⟩,
          ⟨(some 19), .buildSl 3 1 [.int .i64 0, .int .i64 0, .nils] [(0, (.t 18))], none⟩,
          ⟨(some 20), .app 3 40 (.t 16) (.t 19), none⟩,
          ⟨(some 5), .mv (.t 20), none⟩] (some [0, 1, 5, 10, 11, 12]))))
      (.region [⟨(some 21), .bin .add (.t 12) (.c (.int .i64 1)), none⟩,
        ⟨(some 12), .mv (.t 21), none⟩] (some [0, 1, 5, 10, 11, 12]))))))))
  (.seq (.seq (.region [⟨(some 22), .mv (.t 1), none⟩,
    ⟨(some 23), .lenS (.t 22), none⟩,
    ⟨(some 24), .mv (.c (.int .i64 0)), none⟩] (some [0, 5, 22, 23, 24]))
  (.block 2 (.loop (.seq (.region [⟨(some 25), .bin .lss (.t 24) (.t 23), none⟩] (some [0, 5, 22, 23, 24, 25]))
      (.seq (.cond (.t 25)
        .skip
        (.exit 2))
      (.seq (.block 3 (.seq (.region [⟨(some 26), .ixA 6 (.t 22) (.t 24), none⟩,
          ⟨(some 27), .ld (some 6) (.t 26), none⟩,
          ⟨(some 9), .alloc [.int .i64 0, .int .i64 0, .nils, .bool false, .nils, .nils], none⟩,
          ⟨none, .st 6 (.t 9) (.t 27), none⟩] (some [0, 5, 9, 22, 23, 24]))
        (.seq (.region [⟨(some 28), .mv (.t 0), none⟩,
          ⟨(some 29), .fA 0 (.t 9), none⟩,
          ⟨(some 30), .ld (some 3) (.t 29), none⟩,
          ⟨(some 31), .call 32 [(.t 28), (.t 30)], none⟩,
          ⟨(some 32), .call 51 [(.t 31)], none⟩,
          ⟨(some 33), .bin .eql (.t 32) (.c (.int .i64 0)), none⟩] (some [0, 5, 9, 22, 23, 24, 33]))
        (.cond (.t 33)
          (.region [⟨(some 34), .mv (.t 5), none⟩,
            ⟨(some 35), .fA 0 (.t 9), none⟩,
            ⟨(some 36), .ld (some 3) (.t 35), none⟩,
            ⟨(some 37), .buildSl 3 1 [.int .i64 0, .int .i64 0, .nils] [(0, (.t 36))], none⟩,
            ⟨(some 38), .app 3 40 (.t 34) (.t 37), none⟩,
            ⟨(some 5), .mv (.t 38), none⟩] (some [0, 5, 22, 23, 24]))
          .skip))))
      (.region [⟨(some 39), .bin .add (.t 24) (.c (.int .i64 1)), none⟩,
        ⟨(some 24), .mv (.t 39), none⟩] (some [0, 5, 22, 23, 24]))))))))
  (.seq (.region [⟨(some 40), .mv (.t 5), none⟩,
    ⟨(some 4), .mv (.t 40), none⟩] (some [4]))
  .ret))))), [.t 4]⟩
theorem ref35_Values_ok : cFn Tryz.prog (kps [[0, 1], [0, 1, 5], [0, 1, 5, 10, 11, 12], [0, 1, 5, 10, 11, 12, 13], [0, 1, 5, 7, 10, 11, 12], [0, 1, 5, 10, 11, 12], [0, 1, 5, 10, 11, 12], [0, 5, 22, 23, 24], [0, 5, 22, 23, 24, 25], [0, 5, 9, 22, 23, 24], [0, 5, 9, 22, 23, 24, 33], [0, 5, 22, 23, 24], [0, 5, 22, 23, 24], [4]]) [] 28 = some ref35_Values_c := by kernel_rfl

abbrev ref35_Weight : Nat := 32
def ref35_Weight_c : MFn :=
  ⟨21, (.seq (.region [⟨(some 3), .box (.t 1), none⟩,
    ⟨(some 4), .alloc [.bool false, .nils, .nils], none⟩] (some [0, 3, 4]))
  (.seq (.seq (.region [⟨(some 7), .mv (.t 0), none⟩,
    ⟨(some 8), .lenS (.t 7), none⟩,
    ⟨(some 9), .mv (.c (.int .i64 0)), none⟩] (some [3, 4, 7, 8, 9]))
  (.block 0 (.loop (.seq (.region [⟨(some 10), .bin .lss (.t 9) (.t 8), none⟩] (some [3, 4, 7, 8, 9, 10]))
      (.seq (.cond (.t 10)
        .skip
        (.exit 0))
      (.seq (.block 1 (.seq (.region [⟨(some 11), .ixA 6 (.t 7) (.t 9), none⟩,
          ⟨(some 12), .ld (some 6) (.t 11), none⟩,
          ⟨(some 6), .alloc [.int .i64 0, .int .i64 0, .nils, .bool false, .nils, .nils], none⟩,
          ⟨none, .st 6 (.t 6) (.t 12), none⟩] (some [3, 4, 6, 7, 8, 9]))
        (.seq (.region [⟨(some 13), .fA 0 (.t 6), none⟩,
          ⟨(some 14), .ld (some 3) (.t 13), none⟩,
          ⟨(some 15), .ld (some 3) (.t 3), none⟩,
          ⟨(some 16), .call 68 [(.t 14), (.t 15)], none⟩] (some [3, 4, 6, 7, 8, 9, 16]))
        (.cond (.t 16)
          (.seq (.region [⟨(some 17), .fA 3 (.t 6), none⟩,
            ⟨(some 18), .ld (some 3) (.t 17), none⟩,
            ⟨none, .st 3 (.t 4) (.t 18), none⟩] (some [4]))
          .ret)
          .skip))))
      (.region [⟨(some 19), .bin .add (.t 9) (.c (.int .i64 1)), none⟩,
        ⟨(some 9), .mv (.t 19), none⟩] (some [3, 4, 7, 8, 9]))))))))
  (.seq (.region [⟨(some 20), .call 29 [], none⟩,
    ⟨none, .st 3 (.t 4) (.t 20), none⟩] (some [4]))
  .ret))), [.cell 4 (some 3)]⟩
theorem ref35_Weight_ok : cFn Tryz.prog (kps [[0, 3, 4], [3, 4, 7, 8, 9], [3, 4, 7, 8, 9, 10], [3, 4, 6, 7, 8, 9], [3, 4, 6, 7, 8, 9, 16], [4], [3, 4, 7, 8, 9], [4]]) [] 32 = some ref35_Weight_c := by kernel_rfl

abbrev couple_Blocks : Nat := 33
def couple_Blocks_c : MFn :=
  ⟨85, (.seq (.region [⟨(some 8), .mv (.c (.bool false)), none⟩] (some [0, 1, 2, 3]))
  (.seq (.seq (.region [⟨(some 15), .mv (.t 0), none⟩,
    ⟨(some 16), .call 14 [(.t 15)], none⟩,
    ⟨(some 17), .un .not (.t 16), none⟩,
    ⟨(some 18), .mv (.t 17), none⟩,
    ⟨(some 19), .mv (.t 1), (some (18, false))⟩,
    ⟨(some 20), .call 14 [(.t 19)], (some (18, false))⟩,
    ⟨(some 21), .un .not (.t 20), (some (18, false))⟩,
    ⟨(some 22), .pick (.t 18) (.c (.bool true)) (.t 21), none⟩] (some [0, 1, 2, 3, 22]))
  (.cond (.t 22)
    (.seq (.region [⟨(some 8), .mv (.c (.bool false)), none⟩] (some [8]))
    .ret)
    .skip))
  (.seq (.region [⟨(some 23), .mv (.t 0), none⟩,
    ⟨(some 24), .mv (.t 1), none⟩,
    ⟨(some 25), .mv (.t 2), none⟩,
    ⟨(some 26), .call 79 [(.t 23), (.t 24), (.t 25)], none⟩,
    ⟨(some 9), .alloc [.nils], none⟩,
    ⟨none, .st 1 (.t 9) (.t 26), none⟩] (some [0, 1, 3, 9]))
  (.seq (.region [⟨(some 27), .call 41 [], none⟩,
    ⟨(some 28), .call 41 [], none⟩,
    ⟨(some 10), .alloc [.bool false, .nils, .nils], none⟩,
    ⟨(some 11), .alloc [.bool false, .nils, .nils], none⟩,
    ⟨none, .st 3 (.t 10) (.t 27), none⟩,
    ⟨none, .st 3 (.t 11) (.t 28), none⟩] (some [0, 1, 3, 9, 10, 11]))
  (.seq (.seq (.region [⟨(some 29), .mv (.t 3), none⟩,
    ⟨(some 30), .lenS (.t 29), none⟩,
    ⟨(some 31), .mv (.c (.int .i64 0)), none⟩] (some [0, 1, 3, 9, 10, 11, 29, 30, 31]))
  (.block 0 (.loop (.seq (.region [⟨(some 32), .bin .lss (.t 31) (.t 30), none⟩] (some [0, 1, 3, 9, 10, 11, 29, 30, 31, 32]))
      (.seq (.cond (.t 32)
        .skip
        (.exit 0))
      (.seq (.block 1 (.seq (.region [⟨(some 33), .mv (.t 31), none⟩,
          ⟨(some 34), .ixA 1 (.t 29) (.t 31), none⟩,
          ⟨(some 35), .ld none (.t 34), none⟩,
          ⟨(some 12), .mv (.t 33), none⟩,
          ⟨(some 13), .mv (.t 35), none⟩] (some [0, 1, 3, 9, 10, 11, 12, 13, 29, 30, 31]))
        (.seq (.seq (.region [⟨(some 36), .mv (.t 13), none⟩,
          ⟨(some 37), .bin .lss (.t 36) (.c (.int .i64 0)), none⟩,
          ⟨(some 38), .mv (.t 37), none⟩,
          ⟨(some 39), .mv (.t 13), (some (38, false))⟩,
          ⟨(some 40), .mv (.t 0), (some (38, false))⟩,
          ⟨(some 41), .lenS (.t 40), (some (38, false))⟩,
          ⟨(some 42), .bin .geq (.t 39) (.t 41), (some (38, false))⟩,
          ⟨(some 43), .pick (.t 38) (.c (.bool true)) (.t 42), none⟩,
          ⟨(some 44), .mv (.t 43), none⟩,
          ⟨(some 45), .mv (.t 12), (some (44, false))⟩,
          ⟨(some 46), .bin .gtr (.t 45) (.c (.int .i64 0)), (some (44, false))⟩,
          ⟨(some 47), .mv (.t 46), (some (44, false))⟩,
          ⟨(some 48), .mv (.t 3), (some (47, true))⟩,
          ⟨(some 49), .mv (.t 12), (some (47, true))⟩,
          ⟨(some 50), .bin .sub (.t 49) (.c (.int .i64 1)), (some (47, true))⟩,
          ⟨(some 51), .ixA 1 (.t 48) (.t 50), (some (47, true))⟩,
          ⟨(some 52), .ld none (.t 51), (some (47, true))⟩,
          ⟨(some 53), .mv (.t 13), (some (47, true))⟩,
          ⟨(some 54), .bin .geq (.t 52) (.t 53), (some (47, true))⟩,
          ⟨(some 55), .pick (.t 47) (.t 54) (.c (.bool false)), (some (44, false))⟩,
          ⟨(some 56), .pick (.t 44) (.c (.bool true)) (.t 55), none⟩] (some [0, 1, 3, 9, 10, 11, 13, 29, 30, 31, 56]))
        (.cond (.t 56)
          (.seq (.region [⟨(some 8), .mv (.c (.bool false)), none⟩] (some [8]))
          .ret)
          .skip))
        (.region [⟨(some 57), .ld (some 3) (.t 10), none⟩,
          ⟨(some 58), .mv (.t 0), none⟩,
          ⟨(some 59), .mv (.t 13), none⟩,
          ⟨(some 60), .ixA 6 (.t 58) (.t 59), none⟩,
          ⟨(some 61), .fA 3 (.t 60), none⟩,
          ⟨(some 62), .ld (some 3) (.t 61), none⟩,
          ⟨(some 63), .callF 46 [(.t 57), (.t 62)], none⟩,
          ⟨none, .st 3 (.t 10) (.t 63), none⟩] (some [0, 1, 3, 9, 10, 11, 29, 30, 31])))))
      (.region [⟨(some 64), .bin .add (.t 31) (.c (.int .i64 1)), none⟩,
        ⟨(some 31), .mv (.t 64), none⟩] (some [0, 1, 3, 9, 10, 11, 29, 30, 31]))))))))
  (.seq (.seq (.region [⟨(some 65), .mv (.t 1), none⟩,
    ⟨(some 66), .lenS (.t 65), none⟩,
    ⟨(some 67), .mv (.c (.int .i64 0)), none⟩] (some [1, 3, 9, 10, 11, 66, 67]))
  (.block 2 (.loop (.seq (.region [⟨(some 68), .bin .lss (.t 67) (.t 66), none⟩] (some [1, 3, 9, 10, 11, 66, 67, 68]))
      (.seq (.cond (.t 68)
        .skip
        (.exit 2))
      (.seq (.block 3 (.seq (.region [⟨(some 69), .mv (.t 67), none⟩,
          ⟨(some 14), .alloc [.int .i64 0], none⟩,
          ⟨none, .st 1 (.t 14) (.t 69), none⟩] (some [1, 3, 9, 10, 11, 14, 66, 67]))
        (.seq (.region [⟨(some 70), .mv (.t 3), none⟩,
          ⟨(some 71), .mkF 81 [(.t 9), (.t 14)], none⟩,
          ⟨(some 72), .call 80 [(.t 70), (.t 71)], none⟩] (some [1, 3, 9, 10, 11, 14, 66, 67, 72]))
        (.cond (.t 72)
          (.region [⟨(some 73), .ld (some 3) (.t 11), none⟩,
            ⟨(some 74), .mv (.t 1), none⟩,
            ⟨(some 75), .ld none (.t 14), none⟩,
            ⟨(some 76), .ixA 6 (.t 74) (.t 75), none⟩,
            ⟨(some 77), .fA 3 (.t 76), none⟩,
            ⟨(some 78), .ld (some 3) (.t 77), none⟩,
            ⟨(some 79), .callF 46 [(.t 73), (.t 78)], none⟩,
            ⟨none, .st 3 (.t 11) (.t 79), none⟩] (some [1, 3, 9, 10, 11, 66, 67]))
          .skip))))
      (.region [⟨(some 80), .bin .add (.t 67) (.c (.int .i64 1)), none⟩,
        ⟨(some 67), .mv (.t 80), none⟩] (some [1, 3, 9, 10, 11, 66, 67]))))))))
  (.seq (.region [⟨(some 81), .ld (some 3) (.t 10), none⟩,
    ⟨(some 82), .ld (some 3) (.t 11), none⟩,
    ⟨(some 83), .call 82 [(.t 81), (.t 82)], none⟩,
    ⟨(some 84), .bin .gtr (.t 83) (.c (.int .i64 0)), none⟩,
    ⟨(some 8), .mv (.t 84), none⟩] (some [8]))
  .ret))))))), [.t 8]⟩
theorem couple_Blocks_ok : cFn Tryz.prog (kps [[0, 1, 2, 3], [0, 1, 2, 3, 22], [8], [0, 1, 3, 9], [0, 1, 3, 9, 10, 11], [0, 1, 3, 9, 10, 11, 29, 30, 31], [0, 1, 3, 9, 10, 11, 29, 30, 31, 32], [0, 1, 3, 9, 10, 11, 12, 13, 29, 30, 31], [0, 1, 3, 9, 10, 11, 13, 29, 30, 31, 56], [8], [0, 1, 3, 9, 10, 11, 29, 30, 31], [0, 1, 3, 9, 10, 11, 29, 30, 31], [1, 3, 9, 10, 11, 66, 67], [1, 3, 9, 10, 11, 66, 67, 68], [1, 3, 9, 10, 11, 14, 66, 67], [1, 3, 9, 10, 11, 14, 66, 67, 72], [1, 3, 9, 10, 11, 66, 67], [1, 3, 9, 10, 11, 66, 67], [8]]) [] 33 = some couple_Blocks_c := by kernel_rfl

abbrev ref35_Blocks : Nat := 34
def ref35_Blocks_c : MFn :=
  ⟨110, (.seq (.region [⟨(some 8), .mv (.c (.bool false)), none⟩] (some [0, 1, 2, 3]))
  (.seq (.seq (.region [⟨(some 19), .mv (.t 0), none⟩,
    ⟨(some 20), .call 15 [(.t 19)], none⟩,
    ⟨(some 21), .un .not (.t 20), none⟩,
    ⟨(some 22), .mv (.t 21), none⟩,
    ⟨(some 23), .mv (.t 1), (some (22, false))⟩,
    ⟨(some 24), .call 15 [(.t 23)], (some (22, false))⟩,
    ⟨(some 25), .un .not (.t 24), (some (22, false))⟩,
    ⟨(some 26), .pick (.t 22) (.c (.bool true)) (.t 25), none⟩] (some [0, 1, 2, 3, 26]))
  (.cond (.t 26)
    (.seq (.region [⟨(some 8), .mv (.c (.bool false)), none⟩] (some [8]))
    .ret)
    .skip))
  (.seq (.region [⟨(some 27), .call 29 [], none⟩,
    ⟨(some 9), .alloc [.bool false, .nils, .nils], none⟩,
    ⟨none, .st 3 (.t 9) (.t 27), none⟩] (some [0, 1, 2, 3, 9]))
  (.seq (.seq (.region [⟨(some 28), .mv (.t 3), none⟩,
    ⟨(some 29), .lenS (.t 28), none⟩,
    ⟨(some 30), .mv (.c (.int .i64 0)), none⟩] (some [0, 1, 2, 3, 9, 28, 29, 30]))
  (.block 0 (.loop (.seq (.region [⟨(some 31), .bin .lss (.t 30) (.t 29), none⟩] (some [0, 1, 2, 3, 9, 28, 29, 30, 31]))
      (.seq (.cond (.t 31)
        .skip
        (.exit 0))
      (.seq (.block 1 (.seq (.region [⟨(some 32), .mv (.t 30), none⟩,
          ⟨(some 33), .ixA 1 (.t 28) (.t 30), none⟩,
          ⟨(some 34), .ld none (.t 33), none⟩,
          ⟨(some 10), .mv (.t 32), none⟩,
          ⟨(some 11), .mv (.t 34), none⟩] (some [0, 1, 2, 3, 9, 10, 11, 28, 29, 30]))
        (.seq (.seq (.region [⟨(some 35), .mv (.t 11), none⟩,
          ⟨(some 36), .bin .lss (.t 35) (.c (.int .i64 0)), none⟩,
          ⟨(some 37), .mv (.t 36), none⟩,
          ⟨(some 38), .mv (.t 11), (some (37, false))⟩,
          ⟨(some 39), .mv (.t 0), (some (37, false))⟩,
          ⟨(some 40), .lenS (.t 39), (some (37, false))⟩,
          ⟨(some 41), .bin .geq (.t 38) (.t 40), (some (37, false))⟩,
          ⟨(some 42), .pick (.t 37) (.c (.bool true)) (.t 41), none⟩,
          ⟨(some 43), .mv (.t 42), none⟩,
          ⟨(some 44), .mv (.t 10), (some (43, false))⟩,
          ⟨(some 45), .bin .gtr (.t 44) (.c (.int .i64 0)), (some (43, false))⟩,
          ⟨(some 46), .mv (.t 45), (some (43, false))⟩,
          ⟨(some 47), .mv (.t 3), (some (46, true))⟩,
          ⟨(some 48), .mv (.t 10), (some (46, true))⟩,
          ⟨(some 49), .bin .sub (.t 48) (.c (.int .i64 1)), (some (46, true))⟩,
          ⟨(some 50), .ixA 1 (.t 47) (.t 49), (some (46, true))⟩,
          ⟨(some 51), .ld none (.t 50), (some (46, true))⟩,
          ⟨(some 52), .mv (.t 11), (some (46, true))⟩,
          ⟨(some 53), .bin .geq (.t 51) (.t 52), (some (46, true))⟩,
          ⟨(some 54), .pick (.t 46) (.t 53) (.c (.bool false)), (some (43, false))⟩,
          ⟨(some 55), .pick (.t 43) (.c (.bool true)) (.t 54), none⟩] (some [0, 1, 2, 3, 9, 11, 28, 29, 30, 55]))
        (.cond (.t 55)
          (.seq (.region [⟨(some 8), .mv (.c (.bool false)), none⟩] (some [8]))
          .ret)
          .skip))
        (.region [⟨(some 56), .ld (some 3) (.t 9), none⟩,
          ⟨(some 57), .mv (.t 0), none⟩,
          ⟨(some 58), .mv (.t 11), none⟩,
          ⟨(some 59), .ixA 6 (.t 57) (.t 58), none⟩,
          ⟨(some 60), .fA 3 (.t 59), none⟩,
          ⟨(some 61), .ld (some 3) (.t 60), none⟩,
          ⟨(some 62), .callF 30 [(.t 56), (.t 61)], none⟩,
          ⟨none, .st 3 (.t 9) (.t 62), none⟩] (some [0, 1, 2, 3, 9, 28, 29, 30])))))
      (.region [⟨(some 63), .bin .add (.t 30) (.c (.int .i64 1)), none⟩,
        ⟨(some 30), .mv (.t 63), none⟩] (some [0, 1, 2, 3, 9, 28, 29, 30]))))))))
  (.seq (.region [⟨(some 64), .call 29 [], none⟩,
    ⟨(some 12), .alloc [.bool false, .nils, .nils], none⟩,
    ⟨none, .st 3 (.t 12) (.t 64), none⟩] (some [1, 2, 3, 9, 12]))
  (.seq (.seq (.region [⟨(some 65), .mv (.t 1), none⟩,
    ⟨(some 66), .lenS (.t 65), none⟩,
    ⟨(some 67), .mv (.c (.int .i64 0)), none⟩] (some [1, 2, 3, 9, 12, 66, 67]))
  (.block 2 (.loop (.seq (.region [⟨(some 68), .bin .lss (.t 67) (.t 66), none⟩] (some [1, 2, 3, 9, 12, 66, 67, 68]))
      (.seq (.cond (.t 68)
        .skip
        (.exit 2))
      (.seq (.block 3 (.seq (.region [⟨(some 69), .mv (.t 67), none⟩,
          ⟨(some 13), .mv (.t 69), none⟩] (some [1, 2, 3, 9, 12, 13, 66, 67]))
        (.seq (.region [⟨(some 14), .mv (.c (.bool false)), none⟩] (some [1, 2, 3, 9, 12, 13, 14, 66, 67]))
        (.seq (.seq (.region [⟨(some 70), .mv (.t 2), none⟩,
          ⟨(some 71), .lenS (.t 70), none⟩,
          ⟨(some 72), .mv (.c (.int .i64 0)), none⟩] (some [1, 2, 3, 9, 12, 13, 14, 66, 67, 70, 71, 72]))
        (.block 4 (.loop (.seq (.region [⟨(some 73), .bin .lss (.t 72) (.t 71), none⟩] (some [1, 2, 3, 9, 12, 13, 14, 66, 67, 70, 71, 72, 73]))
            (.seq (.cond (.t 73)
              .skip
              (.exit 4))
            (.seq (.block 5 (.seq (.region [⟨(some 74), .ixA 2 (.t 70) (.t 72), none⟩,
                ⟨(some 75), .ld (some 2) (.t 74), none⟩,
                ⟨(some 16), .alloc [.int .i64 0, .int .i64 0], none⟩,
                ⟨none, .st 2 (.t 16) (.t 75), none⟩] (some [1, 2, 3, 9, 12, 13, 14, 16, 66, 67, 70, 71, 72]))
              (.seq (.region [⟨(some 76), .mv (.t 3), none⟩,
                ⟨(some 77), .lenS (.t 76), none⟩,
                ⟨(some 78), .mv (.c (.int .i64 0)), none⟩] (some [1, 2, 3, 9, 12, 13, 14, 16, 66, 67, 70, 71, 72, 76, 77, 78]))
              (.block 6 (.loop (.seq (.region [⟨(some 79), .bin .lss (.t 78) (.t 77), none⟩] (some [1, 2, 3, 9, 12, 13, 14, 16, 66, 67, 70, 71, 72, 76, 77, 78, 79]))
                  (.seq (.cond (.t 79)
                    .skip
                    (.exit 6))
                  (.seq (.block 7 (.seq (.region [⟨(some 80), .ixA 1 (.t 76) (.t 78), none⟩,
                      ⟨(some 81), .ld none (.t 80), none⟩,
                      ⟨(some 18), .mv (.t 81), none⟩] (some [1, 2, 3, 9, 12, 13, 14, 16, 18, 66, 67, 70, 71, 72, 76, 77, 78]))
                    (.region [⟨(some 82), .mv (.t 14), none⟩,
                      ⟨(some 83), .mv (.t 82), none⟩,
                      ⟨(some 84), .ixArr 2 1 (.t 16) (.c (.int .i64 0)), (some (83, false))⟩,
                      ⟨(some 85), .ld none (.t 84), (some (83, false))⟩,
                      ⟨(some 86), .mv (.t 18), (some (83, false))⟩,
                      ⟨(some 87), .bin .eql (.t 85) (.t 86), (some (83, false))⟩,
                      ⟨(some 88), .mv (.t 87), (some (83, false))⟩,
                      ⟨(some 89), .ixArr 2 1 (.t 16) (.c (.int .i64 1)), (some (88, true))⟩,
                      ⟨(some 90), .ld none (.t 89), (some (88, true))⟩,
                      ⟨(some 91), .mv (.t 13), (some (88, true))⟩,
                      ⟨(some 92), .bin .eql (.t 90) (.t 91), (some (88, true))⟩,
                      ⟨(some 93), .pick (.t 88) (.t 92) (.c (.bool false)), (some (83, false))⟩,
                      ⟨(some 94), .pick (.t 83) (.c (.bool true)) (.t 93), none⟩,
                      ⟨(some 14), .mv (.t 94), none⟩] (some [1, 2, 3, 9, 12, 13, 14, 16, 66, 67, 70, 71, 72, 76, 77, 78]))))
                  (.region [⟨(some 95), .bin .add (.t 78) (.c (.int .i64 1)), none⟩,
                    ⟨(some 78), .mv (.t 95), none⟩] (some [1, 2, 3, 9, 12, 13, 14, 16, 66, 67, 70, 71, 72, 76, 77, 78]))))))))))
            (.region [⟨(some 96), .bin .add (.t 72) (.c (.int .i64 1)), none⟩,
              ⟨(some 72), .mv (.t 96), none⟩] (some [1, 2, 3, 9, 12, 13, 14, 66, 67, 70, 71, 72]))))))))
        (.seq (.region [⟨(some 97), .mv (.t 14), none⟩] (some [1, 2, 3, 9, 12, 13, 66, 67, 97]))
        (.cond (.t 97)
          (.region [⟨(some 98), .ld (some 3) (.t 12), none⟩,
            ⟨(some 99), .mv (.t 1), none⟩,
            ⟨(some 100), .mv (.t 13), none⟩,
            ⟨(some 101), .ixA 6 (.t 99) (.t 100), none⟩,
            ⟨(some 102), .fA 3 (.t 101), none⟩,
            ⟨(some 103), .ld (some 3) (.t 102), none⟩,
            ⟨(some 104), .callF 30 [(.t 98), (.t 103)], none⟩,
            ⟨none, .st 3 (.t 12) (.t 104), none⟩] (some [1, 2, 3, 9, 12, 66, 67]))
          .skip))))))
      (.region [⟨(some 105), .bin .add (.t 67) (.c (.int .i64 1)), none⟩,
        ⟨(some 67), .mv (.t 105), none⟩] (some [1, 2, 3, 9, 12, 66, 67]))))))))
  (.seq (.region [⟨(some 106), .ld (some 3) (.t 9), none⟩,
    ⟨(some 107), .ld (some 3) (.t 12), none⟩,
    ⟨(some 108), .call 27 [(.t 106), (.t 107)], none⟩,
    ⟨(some 109), .bin .gtr (.t 108) (.c (.int .i64 0)), none⟩,
    ⟨(some 8), .mv (.t 109), none⟩] (some [8]))
  .ret))))))), [.t 8]⟩
theorem ref35_Blocks_ok : cFn Tryz.prog (kps [[0, 1, 2, 3], [0, 1, 2, 3, 26], [8], [0, 1, 2, 3, 9], [0, 1, 2, 3, 9, 28, 29, 30], [0, 1, 2, 3, 9, 28, 29, 30, 31], [0, 1, 2, 3, 9, 10, 11, 28, 29, 30], [0, 1, 2, 3, 9, 11, 28, 29, 30, 55], [8], [0, 1, 2, 3, 9, 28, 29, 30], [0, 1, 2, 3, 9, 28, 29, 30], [1, 2, 3, 9, 12], [1, 2, 3, 9, 12, 66, 67], [1, 2, 3, 9, 12, 66, 67, 68], [1, 2, 3, 9, 12, 13, 66, 67], [1, 2, 3, 9, 12, 13, 14, 66, 67], [1, 2, 3, 9, 12, 13, 14, 66, 67, 70, 71, 72], [1, 2, 3, 9, 12, 13, 14, 66, 67, 70, 71, 72, 73], [1, 2, 3, 9, 12, 13, 14, 16, 66, 67, 70, 71, 72], [1, 2, 3, 9, 12, 13, 14, 16, 66, 67, 70, 71, 72, 76, 77, 78], [1, 2, 3, 9, 12, 13, 14, 16, 66, 67, 70, 71, 72, 76, 77, 78, 79], [1, 2, 3, 9, 12, 13, 14, 16, 18, 66, 67, 70, 71, 72, 76, 77, 78], [1, 2, 3, 9, 12, 13, 14, 16, 66, 67, 70, 71, 72, 76, 77, 78], [1, 2, 3, 9, 12, 13, 14, 16, 66, 67, 70, 71, 72, 76, 77, 78], [1, 2, 3, 9, 12, 13, 14, 66, 67, 70, 71, 72], [1, 2, 3, 9, 12, 13, 66, 67, 97], [1, 2, 3, 9, 12, 66, 67], [1, 2, 3, 9, 12, 66, 67], [8]]) [] 34 = some ref35_Blocks_c := by kernel_rfl

abbrev couple_Below : Nat := 35
def couple_Below_c : MFn :=
  ⟨71, (.seq (.region [⟨(some 4), .mv (.c (.nils)), none⟩,
    ⟨(some 5), .mv (.c (.int .i64 0)), none⟩,
    ⟨(some 6), .mv (.c (.int .i64 0)), none⟩] (some [0, 1]))
  (.seq (.seq (.region [⟨(some 11), .mv (.t 0), none⟩,
    ⟨(some 12), .call 14 [(.t 11)], none⟩,
    ⟨(some 13), .un .not (.t 12), none⟩,
    ⟨(some 14), .mv (.t 13), none⟩,
    ⟨(some 15), .mv (.t 1), (some (14, false))⟩,
    ⟨(some 16), .call 14 [(.t 15)], (some (14, false))⟩,
    ⟨(some 17), .un .not (.t 16), (some (14, false))⟩,
    ⟨(some 18), .pick (.t 14) (.c (.bool true)) (.t 17), none⟩] (some [0, 1, 18]))
  (.cond (.t 18)
    (.seq (.region [⟨(some 4), .mv (.c (.nils)), none⟩,
      ⟨(some 5), .mv (.c (.int .i64 0)), none⟩,
      ⟨(some 6), .mv (.c (.int .i64 1)), none⟩] (some [4, 5, 6]))
    .ret)
    .skip))
  (.seq (.seq (.region [⟨(some 19), .mv (.t 0), none⟩,
    ⟨(some 20), .mv (.t 1), none⟩,
    ⟨(some 21), .buildSl 1 2 [.nils] [(0, (.t 19)), (1, (.t 20))], none⟩,
    ⟨(some 22), .call 84 [(.t 21)], none⟩,
    ⟨(some 23), .call 83 [(.t 22), (.c (.clo 85 []))], none⟩] (some [0, 1, 23]))
  (.cond (.t 23)
    (.seq (.region [⟨(some 4), .mv (.c (.nils)), none⟩,
      ⟨(some 5), .mv (.c (.int .i64 0)), none⟩,
      ⟨(some 6), .mv (.c (.int .i64 30)), none⟩] (some [4, 5, 6]))
    .ret)
    .skip))
  (.seq (.region [⟨(some 24), .call 41 [], none⟩,
    ⟨(some 7), .alloc [.bool false, .nils, .nils], none⟩,
    ⟨none, .st 3 (.t 7) (.t 24), none⟩,
    ⟨(some 8), .mv (.c (.int .i64 0)), none⟩] (some [0, 1, 7, 8]))
  (.seq (.seq (.region [⟨(some 25), .mv (.t 1), none⟩,
    ⟨(some 26), .lenS (.t 25), none⟩,
    ⟨(some 27), .mv (.c (.int .i64 0)), none⟩] (some [0, 1, 7, 8, 25, 26, 27]))
  (.block 0 (.loop (.seq (.region [⟨(some 28), .bin .lss (.t 27) (.t 26), none⟩] (some [0, 1, 7, 8, 25, 26, 27, 28]))
      (.seq (.cond (.t 28)
        .skip
        (.exit 0))
      (.seq (.block 1 (.seq (.region [⟨(some 29), .mv (.t 27), none⟩,
          ⟨(some 30), .ixA 6 (.t 25) (.t 27), none⟩,
          ⟨(some 31), .ld (some 6) (.t 30), none⟩,
          ⟨(some 10), .alloc [.int .i64 0, .int .i64 0, .nils, .bool false, .nils, .nils], none⟩,
          ⟨(some 9), .mv (.t 29), none⟩,
          ⟨none, .st 6 (.t 10) (.t 31), none⟩] (some [0, 1, 7, 8, 9, 10, 25, 26, 27]))
        (.seq (.region [⟨(some 32), .ld (some 3) (.t 7), none⟩,
          ⟨(some 33), .fA 3 (.t 10), none⟩,
          ⟨(some 34), .ld (some 3) (.t 33), none⟩,
          ⟨(some 35), .call 46 [(.t 32), (.t 34)], none⟩,
          ⟨none, .st 3 (.t 7) (.t 35), none⟩] (some [0, 1, 7, 8, 9, 10, 25, 26, 27]))
        (.seq (.block 2 (.loop (.seq (.seq (.region [⟨(some 36), .mv (.t 8), none⟩,
              ⟨(some 37), .mv (.t 0), none⟩,
              ⟨(some 38), .lenS (.t 37), none⟩,
              ⟨(some 39), .bin .lss (.t 36) (.t 38), none⟩,
              ⟨(some 40), .mv (.t 39), none⟩,
              ⟨(some 41), .mv (.t 0), (some (40, true))⟩,
              ⟨(some 42), .mv (.t 8), (some (40, true))⟩,
              ⟨(some 43), .ixA 6 (.t 41) (.t 42), (some (40, true))⟩,
              ⟨(some 44), .fA 0 (.t 43), (some (40, true))⟩,
              ⟨(some 45), .fA 1 (.t 44), (some (40, true))⟩,
              ⟨(some 46), .ld none (.t 45), (some (40, true))⟩,
              ⟨(some 47), .fA 0 (.t 10), (some (40, true))⟩,
              ⟨(some 48), .fA 1 (.t 47), (some (40, true))⟩,
              ⟨(some 49), .ld none (.t 48), (some (40, true))⟩,
              ⟨(some 50), .bin .leq (.t 46) (.t 49), (some (40, true))⟩,
              ⟨(some 51), .pick (.t 40) (.t 50) (.c (.bool false)), none⟩] (some [0, 1, 7, 8, 9, 10, 25, 26, 27, 51]))
            (.cond (.t 51)
              .skip
              (.exit 2)))
            (.seq (.block 3 (.region [⟨(some 54), .ld (some 3) (.t 7), none⟩,
                ⟨(some 55), .mv (.t 0), none⟩,
                ⟨(some 56), .mv (.t 8), none⟩,
                ⟨(some 57), .ixA 6 (.t 55) (.t 56), none⟩,
                ⟨(some 58), .fA 3 (.t 57), none⟩,
                ⟨(some 59), .ld (some 3) (.t 58), none⟩,
                ⟨(some 60), .callF 56 [(.t 54), (.t 59)], none⟩,
                ⟨none, .st 3 (.t 7) (.t 60), none⟩] (some [0, 1, 7, 8, 9, 10, 25, 26, 27])))
            (.region [⟨(some 52), .mv (.t 8), none⟩,
              ⟨(some 53), .bin .add (.t 52) (.c (.int .i64 1)), none⟩,
              ⟨(some 8), .mv (.t 53), none⟩] (some [0, 1, 7, 8, 9, 10, 25, 26, 27]))))))
        (.seq (.region [⟨(some 61), .ld (some 3) (.t 7), none⟩,
          ⟨(some 62), .call 44 [(.t 61)], none⟩,
          ⟨(some 63), .bin .gtr (.t 62) (.c (.int .i64 0)), none⟩] (some [0, 1, 7, 8, 9, 25, 26, 27, 63]))
        (.cond (.t 63)
          (.seq (.region [⟨(some 64), .mv (.t 9), none⟩,
            ⟨(some 4), .mv (.c (.nils)), none⟩,
            ⟨(some 5), .mv (.t 64), none⟩,
            ⟨(some 6), .mv (.c (.int .i64 0)), none⟩] (some [4, 5, 6]))
          .ret)
          .skip))))))
      (.region [⟨(some 65), .bin .add (.t 27) (.c (.int .i64 1)), none⟩,
        ⟨(some 27), .mv (.t 65), none⟩] (some [0, 1, 7, 8, 25, 26, 27]))))))))
  (.seq (.region [⟨(some 66), .mv (.t 0), none⟩,
    ⟨(some 67), .call 54 [(.t 66)], none⟩,
    ⟨(some 68), .mv (.t 1), none⟩,
    ⟨(some 69), .call 54 [(.t 68)], none⟩,
    ⟨(some 70), .call 66 [(.t 67), (.t 69)], none⟩,
    ⟨(some 4), .mv (.t 70), none⟩,
    ⟨(some 5), .mv (.c (.int .i64 (-1))), none⟩,
    ⟨(some 6), .mv (.c (.int .i64 0)), none⟩] (some [4, 5, 6]))
  .ret)))))), [.t 4, .t 5, .t 6]⟩
theorem couple_Below_ok : cFn Tryz.prog (kps [[0, 1], [0, 1, 18], [4, 5, 6], [0, 1, 23], [4, 5, 6], [0, 1, 7, 8], [0, 1, 7, 8, 25, 26, 27], [0, 1, 7, 8, 25, 26, 27, 28], [0, 1, 7, 8, 9, 10, 25, 26, 27], [0, 1, 7, 8, 9, 10, 25, 26, 27], [0, 1, 7, 8, 9, 10, 25, 26, 27, 51], [0, 1, 7, 8, 9, 10, 25, 26, 27], [0, 1, 7, 8, 9, 10, 25, 26, 27], [0, 1, 7, 8, 9, 25, 26, 27, 63], [4, 5, 6], [0, 1, 7, 8, 25, 26, 27], [4, 5, 6]]) [] 35 = some couple_Below_c := by kernel_rfl

abbrev ref35_Below : Nat := 36
def ref35_Below_c : MFn :=
  ⟨93, (.seq (.region [⟨(some 4), .mv (.c (.nils)), none⟩,
    ⟨(some 5), .mv (.c (.int .i64 0)), none⟩,
    ⟨(some 6), .mv (.c (.int .i64 0)), none⟩] (some [0, 1]))
  (.seq (.seq (.region [⟨(some 17), .mv (.t 0), none⟩,
    ⟨(some 18), .call 15 [(.t 17)], none⟩,
    ⟨(some 19), .un .not (.t 18), none⟩,
    ⟨(some 20), .mv (.t 19), none⟩,
    ⟨(some 21), .mv (.t 1), (some (20, false))⟩,
    ⟨(some 22), .call 15 [(.t 21)], (some (20, false))⟩,
    ⟨(some 23), .un .not (.t 22), (some (20, false))⟩,
    ⟨(some 24), .pick (.t 20) (.c (.bool true)) (.t 23), none⟩] (some [0, 1, 24]))
  (.cond (.t 24)
    (.seq (.region [⟨(some 4), .mv (.c (.nils)), none⟩,
      ⟨(some 5), .mv (.c (.int .i64 0)), none⟩,
      ⟨(some 6), .mv (.c (.int .i64 1)), none⟩] (some [4, 5, 6]))
    .ret)
    .skip))
  (.seq (.seq (.region [⟨(some 25), .mv (.t 0), none⟩,
    ⟨(some 26), .mv (.t 1), none⟩,
    ⟨(some 27), .call 28 [(.t 25), (.t 26)], none⟩,
    ⟨(some 28), .lenS (.t 27), none⟩,
    ⟨(some 29), .mv (.c (.int .i64 0)), none⟩] (some [0, 1, 27, 28, 29]))
  (.block 0 (.loop (.seq (.region [⟨(some 30), .bin .lss (.t 29) (.t 28), none⟩] (some [0, 1, 27, 28, 29, 30]))
      (.seq (.cond (.t 30)
        .skip
        (.exit 0))
      (.seq (.block 1 (.seq (.region [⟨(some 31), .ixA 3 (.t 27) (.t 29), none⟩,
          ⟨(some 32), .ld (some 3) (.t 31), none⟩,
          ⟨(some 8), .alloc [.int .i64 0, .int .i64 0, .nils], none⟩,
          ⟨none, .st 3 (.t 8) (.t 32), none⟩] (some [0, 1, 8, 27, 28, 29]))
        (.seq (.region [⟨(some 33), .fA 0 (.t 8), none⟩,
          ⟨(some 34), .ld none (.t 33), none⟩,
          ⟨(some 35), .bin .neq (.t 34) (.c (.int .i64 2)), none⟩] (some [0, 1, 27, 28, 29, 35]))
        (.cond (.t 35)
          (.seq (.region [⟨(some 4), .mv (.c (.nils)), none⟩,
            ⟨(some 5), .mv (.c (.int .i64 0)), none⟩,
            ⟨(some 6), .mv (.c (.int .i64 30)), none⟩] (some [4, 5, 6]))
          .ret)
          .skip))))
      (.region [⟨(some 36), .bin .add (.t 29) (.c (.int .i64 1)), none⟩,
        ⟨(some 29), .mv (.t 36), none⟩] (some [0, 1, 27, 28, 29]))))))))
  (.seq (.seq (.region [⟨(some 37), .mv (.t 1), none⟩,
    ⟨(some 38), .lenS (.t 37), none⟩,
    ⟨(some 39), .mv (.c (.int .i64 0)), none⟩] (some [0, 1, 37, 38, 39]))
  (.block 2 (.loop (.seq (.region [⟨(some 40), .bin .lss (.t 39) (.t 38), none⟩] (some [0, 1, 37, 38, 39, 40]))
      (.seq (.cond (.t 40)
        .skip
        (.exit 2))
      (.seq (.block 3 (.seq (.region [⟨(some 41), .mv (.t 39), none⟩,
          ⟨(some 42), .ixA 6 (.t 37) (.t 39), none⟩,
          ⟨(some 43), .ld (some 6) (.t 42), none⟩,
          ⟨(some 10), .alloc [.int .i64 0, .int .i64 0, .nils, .bool false, .nils, .nils], none⟩,
          ⟨(some 9), .mv (.t 41), none⟩,
          ⟨none, .st 6 (.t 10) (.t 43), none⟩] (some [0, 1, 9, 10, 37, 38, 39]))
        (.seq (.region [⟨(some 44), .call 29 [], none⟩,
          ⟨(some 45), .call 29 [], none⟩,
          ⟨(some 11), .alloc [.bool false, .nils, .nils], none⟩,
          ⟨(some 12), .alloc [.bool false, .nils, .nils], none⟩,
          ⟨none, .st 3 (.t 11) (.t 44), none⟩,
          ⟨none, .st 3 (.t 12) (.t 45), none⟩] (some [0, 1, 9, 10, 11, 12, 37, 38, 39]))
        (.seq (.seq (.region [⟨(some 46), .mv (.t 0), none⟩,
          ⟨(some 47), .lenS (.t 46), none⟩,
          ⟨(some 48), .mv (.c (.int .i64 0)), none⟩] (some [0, 1, 9, 10, 11, 12, 37, 38, 39, 46, 47, 48]))
        (.block 4 (.loop (.seq (.region [⟨(some 49), .bin .lss (.t 48) (.t 47), none⟩] (some [0, 1, 9, 10, 11, 12, 37, 38, 39, 46, 47, 48, 49]))
            (.seq (.cond (.t 49)
              .skip
              (.exit 4))
            (.seq (.block 5 (.seq (.region [⟨(some 50), .ixA 6 (.t 46) (.t 48), none⟩,
                ⟨(some 51), .ld (some 6) (.t 50), none⟩,
                ⟨(some 14), .alloc [.int .i64 0, .int .i64 0, .nils, .bool false, .nils, .nils], none⟩,
                ⟨none, .st 6 (.t 14) (.t 51), none⟩] (some [0, 1, 9, 10, 11, 12, 14, 37, 38, 39, 46, 47, 48]))
              (.seq (.region [⟨(some 52), .fA 0 (.t 14), none⟩,
                ⟨(some 53), .fA 1 (.t 52), none⟩,
                ⟨(some 54), .ld none (.t 53), none⟩,
                ⟨(some 55), .fA 0 (.t 10), none⟩,
                ⟨(some 56), .fA 1 (.t 55), none⟩,
                ⟨(some 57), .ld none (.t 56), none⟩,
                ⟨(some 58), .bin .leq (.t 54) (.t 57), none⟩] (some [0, 1, 9, 10, 11, 12, 14, 37, 38, 39, 46, 47, 48, 58]))
              (.cond (.t 58)
                (.region [⟨(some 59), .ld (some 3) (.t 11), none⟩,
                  ⟨(some 60), .fA 3 (.t 14), none⟩,
                  ⟨(some 61), .ld (some 3) (.t 60), none⟩,
                  ⟨(some 62), .call 30 [(.t 59), (.t 61)], none⟩,
                  ⟨none, .st 3 (.t 11) (.t 62), none⟩] (some [0, 1, 9, 10, 11, 12, 37, 38, 39, 46, 47, 48]))
                .skip))))
            (.region [⟨(some 63), .bin .add (.t 48) (.c (.int .i64 1)), none⟩,
              ⟨(some 48), .mv (.t 63), none⟩] (some [0, 1, 9, 10, 11, 12, 37, 38, 39, 46, 47, 48]))))))))
        (.seq (.seq (.region [⟨(some 64), .mv (.t 1), none⟩,
          ⟨(some 65), .lenS (.t 64), none⟩,
          ⟨(some 66), .mv (.c (.int .i64 0)), none⟩] (some [0, 1, 9, 10, 11, 12, 37, 38, 39, 64, 65, 66]))
        (.block 6 (.loop (.seq (.region [⟨(some 67), .bin .lss (.t 66) (.t 65), none⟩] (some [0, 1, 9, 10, 11, 12, 37, 38, 39, 64, 65, 66, 67]))
            (.seq (.cond (.t 67)
              .skip
              (.exit 6))
            (.seq (.block 7 (.seq (.region [⟨(some 68), .ixA 6 (.t 64) (.t 66), none⟩,
                ⟨(some 69), .ld (some 6) (.t 68), none⟩,
                ⟨(some 16), .alloc [.int .i64 0, .int .i64 0, .nils, .bool false, .nils, .nils], none⟩,
                ⟨none, .st 6 (.t 16) (.t 69), none⟩] (some [0, 1, 9, 10, 11, 12, 16, 37, 38, 39, 64, 65, 66]))
              (.seq (.region [⟨(some 70), .fA 0 (.t 16), none⟩,
                ⟨(some 71), .fA 1 (.t 70), none⟩,
                ⟨(some 72), .ld none (.t 71), none⟩,
                ⟨(some 73), .fA 0 (.t 10), none⟩,
                ⟨(some 74), .fA 1 (.t 73), none⟩,
                ⟨(some 75), .ld none (.t 74), none⟩,
                ⟨(some 76), .bin .leq (.t 72) (.t 75), none⟩] (some [0, 1, 9, 10, 11, 12, 16, 37, 38, 39, 64, 65, 66, 76]))
              (.cond (.t 76)
                (.region [⟨(some 77), .ld (some 3) (.t 12), none⟩,
                  ⟨(some 78), .fA 3 (.t 16), none⟩,
                  ⟨(some 79), .ld (some 3) (.t 78), none⟩,
                  ⟨(some 80), .call 30 [(.t 77), (.t 79)], none⟩,
                  ⟨none, .st 3 (.t 12) (.t 80), none⟩] (some [0, 1, 9, 10, 11, 12, 37, 38, 39, 64, 65, 66]))
                .skip))))
            (.region [⟨(some 81), .bin .add (.t 66) (.c (.int .i64 1)), none⟩,
              ⟨(some 66), .mv (.t 81), none⟩] (some [0, 1, 9, 10, 11, 12, 37, 38, 39, 64, 65, 66]))))))))
        (.seq (.region [⟨(some 82), .ld (some 3) (.t 12), none⟩,
          ⟨(some 83), .ld (some 3) (.t 11), none⟩,
          ⟨(some 84), .call 27 [(.t 82), (.t 83)], none⟩,
          ⟨(some 85), .bin .gtr (.t 84) (.c (.int .i64 0)), none⟩] (some [0, 1, 9, 37, 38, 39, 85]))
        (.cond (.t 85)
          (.seq (.region [⟨(some 86), .mv (.t 9), none⟩,
            ⟨(some 4), .mv (.c (.nils)), none⟩,
            ⟨(some 5), .mv (.t 86), none⟩,
            ⟨(some 6), .mv (.c (.int .i64 0)), none⟩] (some [4, 5, 6]))
          .ret)
          .skip)))))))
      (.region [⟨(some 87), .bin .add (.t 39) (.c (.int .i64 1)), none⟩,
        ⟨(some 39), .mv (.t 87), none⟩] (some [0, 1, 37, 38, 39]))))))))
  (.seq (.region [⟨(some 88), .mv (.t 0), none⟩,
    ⟨(some 89), .call 67 [(.t 88)], none⟩,
    ⟨(some 90), .mv (.t 1), none⟩,
    ⟨(some 91), .call 67 [(.t 90)], none⟩,
    ⟨(some 92), .call 71 [(.c (.nils)), (.t 89), (.t 91)], none⟩,
    ⟨(some 4), .mv (.t 92), none⟩,
    ⟨(some 5), .mv (.c (.int .i64 (-1))), none⟩,
    ⟨(some 6), .mv (.c (.int .i64 0)), none⟩] (some [4, 5, 6]))
  .ret))))), [.t 4, .t 5, .t 6]⟩
theorem ref35_Below_ok : cFn Tryz.prog (kps [[0, 1], [0, 1, 24], [4, 5, 6], [0, 1, 27, 28, 29], [0, 1, 27, 28, 29, 30], [0, 1, 8, 27, 28, 29], [0, 1, 27, 28, 29, 35], [4, 5, 6], [0, 1, 27, 28, 29], [0, 1, 37, 38, 39], [0, 1, 37, 38, 39, 40], [0, 1, 9, 10, 37, 38, 39], [0, 1, 9, 10, 11, 12, 37, 38, 39], [0, 1, 9, 10, 11, 12, 37, 38, 39, 46, 47, 48], [0, 1, 9, 10, 11, 12, 37, 38, 39, 46, 47, 48, 49], [0, 1, 9, 10, 11, 12, 14, 37, 38, 39, 46, 47, 48], [0, 1, 9, 10, 11, 12, 14, 37, 38, 39, 46, 47, 48, 58], [0, 1, 9, 10, 11, 12, 37, 38, 39, 46, 47, 48], [0, 1, 9, 10, 11, 12, 37, 38, 39, 46, 47, 48], [0, 1, 9, 10, 11, 12, 37, 38, 39, 64, 65, 66], [0, 1, 9, 10, 11, 12, 37, 38, 39, 64, 65, 66, 67], [0, 1, 9, 10, 11, 12, 16, 37, 38, 39, 64, 65, 66], [0, 1, 9, 10, 11, 12, 16, 37, 38, 39, 64, 65, 66, 76], [0, 1, 9, 10, 11, 12, 37, 38, 39, 64, 65, 66], [0, 1, 9, 10, 11, 12, 37, 38, 39, 64, 65, 66], [0, 1, 9, 37, 38, 39, 85], [4, 5, 6], [0, 1, 37, 38, 39], [4, 5, 6]]) [] 36 = some ref35_Below_c := by kernel_rfl

abbrev law35_upTo : Nat := 37
def law35_upTo_c : MFn :=
  ⟨30, (.seq (.region [⟨(some 4), .alloc [.bool false, .nils, .nils], none⟩] (some [0, 1, 4]))
  (.seq (.region [⟨(some 7), .call 29 [], none⟩,
    ⟨(some 5), .alloc [.bool false, .nils, .nils], none⟩,
    ⟨none, .st 3 (.t 5) (.t 7), none⟩] (some [0, 1, 4, 5]))
  (.seq (.seq (.region [⟨(some 8), .mv (.t 0), none⟩,
    ⟨(some 9), .lenS (.t 8), none⟩,
    ⟨(some 10), .mv (.c (.int .i64 0)), none⟩] (some [0, 1, 4, 5, 9, 10]))
  (.block 0 (.loop (.seq (.region [⟨(some 11), .bin .lss (.t 10) (.t 9), none⟩] (some [0, 1, 4, 5, 9, 10, 11]))
      (.seq (.cond (.t 11)
        .skip
        (.exit 0))
      (.seq (.block 1 (.seq (.region [⟨(some 12), .mv (.t 10), none⟩,
          ⟨(some 6), .mv (.t 12), none⟩] (some [0, 1, 4, 5, 6, 9, 10]))
        (.seq (.region [⟨(some 13), .mv (.t 0), none⟩,
          ⟨(some 14), .mv (.t 6), none⟩,
          ⟨(some 15), .ixA 6 (.t 13) (.t 14), none⟩,
          ⟨(some 16), .fA 0 (.t 15), none⟩,
          ⟨(some 17), .fA 1 (.t 16), none⟩,
          ⟨(some 18), .ld none (.t 17), none⟩,
          ⟨(some 19), .mv (.t 1), none⟩,
          ⟨(some 20), .bin .leq (.t 18) (.t 19), none⟩] (some [0, 1, 4, 5, 6, 9, 10, 20]))
        (.cond (.t 20)
          (.region [⟨(some 21), .ld (some 3) (.t 5), none⟩,
            ⟨(some 22), .mv (.t 0), none⟩,
            ⟨(some 23), .mv (.t 6), none⟩,
            ⟨(some 24), .ixA 6 (.t 22) (.t 23), none⟩,
            ⟨(some 25), .fA 3 (.t 24), none⟩,
            ⟨(some 26), .ld (some 3) (.t 25), none⟩,
            ⟨(some 27), .callF 30 [(.t 21), (.t 26)], none⟩,
            ⟨none, .st 3 (.t 5) (.t 27), none⟩] (some [0, 1, 4, 5, 9, 10]))
          .skip))))
      (.region [⟨(some 28), .bin .add (.t 10) (.c (.int .i64 1)), none⟩,
        ⟨(some 10), .mv (.t 28), none⟩] (some [0, 1, 4, 5, 9, 10]))))))))
  (.seq (.region [⟨(some 29), .ld (some 3) (.t 5), none⟩,
    ⟨none, .st 3 (.t 4) (.t 29), none⟩] (some [4]))
  .ret)))), [.cell 4 (some 3)]⟩
theorem law35_upTo_ok : cFn Tryz.prog (kps [[0, 1, 4], [0, 1, 4, 5], [0, 1, 4, 5, 9, 10], [0, 1, 4, 5, 9, 10, 11], [0, 1, 4, 5, 6, 9, 10], [0, 1, 4, 5, 6, 9, 10, 20], [0, 1, 4, 5, 9, 10], [0, 1, 4, 5, 9, 10], [4]]) [] 37 = some law35_upTo_c := by kernel_rfl

abbrev ref35_Blocked : Nat := 39
def ref35_Blocked_c : MFn :=
  ⟨37, (.seq (.region [⟨(some 6), .mv (.c (.bool false)), none⟩] (some [0, 1, 2]))
  (.seq (.seq (.region [⟨(some 7), .mv (.c (.int .i64 0)), none⟩] (some [0, 1, 2, 7]))
  (.block 0 (.loop (.seq (.seq (.region [⟨(some 10), .mv (.t 7), none⟩,
        ⟨(some 11), .mv (.t 0), none⟩,
        ⟨(some 12), .lenS (.t 11), none⟩,
        ⟨(some 13), .bin .shl (.c (.int .i64 1)) (.t 12), none⟩,
        ⟨(some 14), .bin .lss (.t 10) (.t 13), none⟩] (some [0, 1, 2, 7, 14]))
      (.cond (.t 14)
        .skip
        (.exit 0)))
      (.seq (.block 1 (.seq (.region [⟨(some 8), .mv (.c (.nils)), none⟩] (some [0, 1, 2, 7, 8]))
        (.seq (.seq (.region [⟨(some 17), .mv (.t 0), none⟩,
          ⟨(some 18), .lenS (.t 17), none⟩,
          ⟨(some 19), .mv (.c (.int .i64 0)), none⟩] (some [0, 1, 2, 7, 8, 18, 19]))
        (.block 2 (.loop (.seq (.region [⟨(some 20), .bin .lss (.t 19) (.t 18), none⟩] (some [0, 1, 2, 7, 8, 18, 19, 20]))
            (.seq (.cond (.t 20)
              .skip
              (.exit 2))
            (.seq (.block 3 (.seq (.region [⟨(some 21), .mv (.t 19), none⟩,
                ⟨(some 9), .mv (.t 21), none⟩] (some [0, 1, 2, 7, 8, 9, 18, 19]))
              (.seq (.region [⟨(some 22), .mv (.t 7), none⟩,
                ⟨(some 23), .mv (.t 9), none⟩,
                ⟨(some 24), .bin .shr (.t 22) (.t 23), none⟩,
                ⟨(some 25), .bin .and (.t 24) (.c (.int .i64 1)), none⟩,
                ⟨(some 26), .bin .eql (.t 25) (.c (.int .i64 1)), none⟩] (some [0, 1, 2, 7, 8, 9, 18, 19, 26]))
              (.cond (.t 26)
                (.region [⟨(some 27), .mv (.t 8), none⟩,
                  ⟨(some 28), .mv (.t 9), none⟩,
                  ⟨(some 29), .buildSl 1 1 [.int .i64 0] [(0, (.t 28))], none⟩,
                  ⟨(some 30), .app 1 8 (.t 27) (.t 29), none⟩,
                  ⟨(some 8), .mv (.t 30), none⟩] (some [0, 1, 2, 7, 8, 18, 19]))
                .skip))))
            (.region [⟨(some 31), .bin .add (.t 19) (.c (.int .i64 1)), none⟩,
              ⟨(some 19), .mv (.t 31), none⟩] (some [0, 1, 2, 7, 8, 18, 19]))))))))
        (.seq (.region [⟨(some 32), .mv (.t 0), none⟩,
          ⟨(some 33), .mv (.t 1), none⟩,
          ⟨(some 34), .mv (.t 2), none⟩,
          ⟨(some 35), .mv (.t 8), none⟩,
          ⟨(some 36), .call 34 [(.t 32), (.t 33), (.t 34), (.t 35)], none⟩] (some [0, 1, 2, 7, 36]))
        (.cond (.t 36)
          (.seq (.region [⟨(some 6), .mv (.c (.bool true)), none⟩] (some [6]))
          .ret)
          .skip)))))
      (.region [⟨(some 15), .mv (.t 7), none⟩,
        ⟨(some 16), .bin .add (.t 15) (.c (.int .i64 1)), none⟩,
        ⟨(some 7), .mv (.t 16), none⟩] (some [0, 1, 2, 7])))))))
  (.seq (.region [⟨(some 6), .mv (.c (.bool false)), none⟩] (some [6]))
  .ret))), [.t 6]⟩
theorem ref35_Blocked_ok : cFn Tryz.prog (kps [[0, 1, 2], [0, 1, 2, 7], [0, 1, 2, 7, 14], [0, 1, 2, 7], [0, 1, 2, 7, 8], [0, 1, 2, 7, 8, 18, 19], [0, 1, 2, 7, 8, 18, 19, 20], [0, 1, 2, 7, 8, 9, 18, 19], [0, 1, 2, 7, 8, 9, 18, 19, 26], [0, 1, 2, 7, 8, 18, 19], [0, 1, 2, 7, 8, 18, 19], [0, 1, 2, 7, 36], [6], [6]]) [] 39 = some ref35_Blocked_c := by kernel_rfl

abbrev law30_Many : Nat := 40
def law30_Many_c : MFn :=
  ⟨26, (.seq (.region [⟨(some 1), .box (.t 0), none⟩,
    ⟨(some 2), .mv (.c (.int .i64 0)), none⟩] (some [1]))
  (.seq (.region [⟨(some 3), .mv (.c (.int .i64 1)), none⟩] (some [1, 3]))
  (.seq (.seq (.region [⟨(some 4), .mv (.c (.int .i64 0)), none⟩] (some [1, 3, 4]))
  (.block 0 (.loop (.seq (.seq (.region [⟨(some 5), .mv (.t 4), none⟩,
        ⟨(some 6), .fA 2 (.t 1), none⟩,
        ⟨(some 7), .ld none (.t 6), none⟩,
        ⟨(some 8), .lenS (.t 7), none⟩,
        ⟨(some 9), .bin .lss (.t 5) (.t 8), none⟩,
        ⟨(some 10), .mv (.t 9), none⟩,
        ⟨(some 11), .mv (.t 3), (some (10, true))⟩,
        ⟨(some 12), .bin .leq (.t 11) (.c (.int .i64 1000)), (some (10, true))⟩,
        ⟨(some 13), .pick (.t 10) (.t 12) (.c (.bool false)), none⟩] (some [1, 3, 4, 13]))
      (.cond (.t 13)
        .skip
        (.exit 0)))
      (.seq (.block 1 (.region [⟨(some 16), .mv (.t 3), none⟩,
          ⟨(some 17), .fA 2 (.t 1), none⟩,
          ⟨(some 18), .ld none (.t 17), none⟩,
          ⟨(some 19), .mv (.t 4), none⟩,
          ⟨(some 20), .ixA 3 (.t 18) (.t 19), none⟩,
          ⟨(some 21), .ld (some 3) (.t 20), none⟩,
          ⟨(some 22), .call 40 [(.t 21)], none⟩,
          ⟨(some 23), .bin .add (.t 16) (.t 22), none⟩,
          ⟨(some 3), .mv (.t 23), none⟩] (some [1, 3, 4])))
      (.region [⟨(some 14), .mv (.t 4), none⟩,
        ⟨(some 15), .bin .add (.t 14) (.c (.int .i64 1)), none⟩,
        ⟨(some 4), .mv (.t 15), none⟩] (some [1, 3, 4])))))))
  (.seq (.region [⟨(some 24), .mv (.t 3), none⟩,
    ⟨(some 25), .min2 (.t 24) (.c (.int .i64 1001)), none⟩,
    ⟨(some 2), .mv (.t 25), none⟩] (some [2]))
  .ret)))), [.t 2]⟩
theorem law30_Many_ok : cFn Tryz.prog (kps [[1], [1, 3], [1, 3, 4], [1, 3, 4, 13], [1, 3, 4], [1, 3, 4], [2]]) [] 40 = some law30_Many_c := by kernel_rfl

abbrev couple_weights : Nat := 54
def couple_weights_c : MFn :=
  ⟨21, (.seq (.region [⟨(some 2), .mv (.c (.nils)), none⟩] (some [0]))
  (.seq (.region [⟨(some 3), .mv (.c (.nils)), none⟩] (some [0, 3]))
  (.seq (.seq (.region [⟨(some 6), .mv (.t 0), none⟩,
    ⟨(some 7), .lenS (.t 6), none⟩,
    ⟨(some 8), .mv (.c (.int .i64 0)), none⟩] (some [3, 6, 7, 8]))
  (.block 0 (.loop (.seq (.region [⟨(some 9), .bin .lss (.t 8) (.t 7), none⟩] (some [3, 6, 7, 8, 9]))
      (.seq (.cond (.t 9)
        .skip
        (.exit 0))
      (.seq (.block 1 (.seq (.region [⟨(some 10), .ixA 6 (.t 6) (.t 8), none⟩,
          ⟨(some 11), .ld (some 6) (.t 10), none⟩,
          ⟨(some 5), .alloc [.int .i64 0, .int .i64 0, .nils, .bool false, .nils, .nils], none⟩,
          ⟨none, .st 6 (.t 5) (.t 11), none⟩] (some [3, 5, 6, 7, 8]))
        (.region [⟨(some 12), .mv (.t 3), none⟩,
          ⟨(some 13), .fA 3 (.t 5), none⟩,
          ⟨(some 14), .ld (some 3) (.t 13), none⟩,
          ⟨(some 15), .callF 41 [], none⟩,
          ⟨(some 16), .callF 46 [(.t 14), (.t 15)], none⟩,
          ⟨(some 17), .buildSl 3 1 [.bool false, .nils, .nils] [(0, (.t 16))], none⟩,
          ⟨(some 18), .app 3 56 (.t 12) (.t 17), none⟩,
          ⟨(some 3), .mv (.t 18), none⟩] (some [3, 6, 7, 8]))))
      (.region [⟨(some 19), .bin .add (.t 8) (.c (.int .i64 1)), none⟩,
        ⟨(some 8), .mv (.t 19), none⟩] (some [3, 6, 7, 8]))))))))
  (.seq (.region [⟨(some 20), .mv (.t 3), none⟩,
    ⟨(some 2), .mv (.t 20), none⟩] (some [2]))
  .ret)))), [.t 2]⟩
theorem couple_weights_ok : cFn Tryz.prog (kps [[0], [0, 3], [3, 6, 7, 8], [3, 6, 7, 8, 9], [3, 5, 6, 7, 8], [3, 6, 7, 8], [3, 6, 7, 8], [2]]) [] 54 = some couple_weights_c := by kernel_rfl

abbrev couple_compare : Nat := 55
def couple_compare_c : MFn :=
  ⟨17, (.seq (.region [⟨(some 2), .box (.t 0), none⟩,
    ⟨(some 3), .box (.t 1), none⟩,
    ⟨(some 4), .mv (.c (.int .i64 0)), none⟩] (some [2, 3]))
  (.seq (.region [⟨(some 5), .fA 0 (.t 2), none⟩,
    ⟨(some 6), .ld none (.t 5), none⟩,
    ⟨(some 7), .fA 0 (.t 3), none⟩,
    ⟨(some 8), .ld none (.t 7), none⟩,
    ⟨(some 9), .callF 97 [(.t 6), (.t 8)], none⟩,
    ⟨(some 10), .fA 1 (.t 2), none⟩,
    ⟨(some 11), .ld none (.t 10), none⟩,
    ⟨(some 12), .fA 1 (.t 3), none⟩,
    ⟨(some 13), .ld none (.t 12), none⟩,
    ⟨(some 14), .callF 97 [(.t 11), (.t 13)], none⟩,
    ⟨(some 15), .buildSl 1 2 [.int .i64 0] [(0, (.t 9)), (1, (.t 14))], none⟩,
    ⟨(some 16), .callF 108 [(.t 15)], none⟩,
    ⟨(some 4), .mv (.t 16), none⟩] (some [4]))
  .ret)), [.t 4]⟩
theorem couple_compare_ok : cFn Tryz.prog (kps [[2, 3], [4]]) [] 55 = some couple_compare_c := by kernel_rfl

abbrev slices_ContainsFunc_Ratio_Ratio : Nat := 57
def slices_ContainsFunc_Ratio_Ratio_c : MFn :=
  ⟨9, (.seq (.region [⟨(some 4), .mv (.c (.bool false)), none⟩] (some [0, 1]))
  (.seq (.region [⟨(some 5), .mv (.t 0), none⟩,
    ⟨(some 6), .mv (.t 1), none⟩,
    ⟨(some 7), .call 110 [(.t 5), (.t 6)], none⟩,
    ⟨(some 8), .bin .geq (.t 7) (.c (.int .i64 0)), none⟩,
    ⟨(some 4), .mv (.t 8), none⟩] (some [4]))
  .ret)), [.t 4]⟩
theorem slices_ContainsFunc_Ratio_Ratio_ok : cFn Tryz.prog (kps [[0, 1], [4]]) [] 57 = some slices_ContainsFunc_Ratio_Ratio_c := by kernel_rfl

abbrev couple_Couples_1 : Nat := 58
def couple_Couples_1_c : MFn :=
  ⟨7, (.seq (.region [⟨(some 1), .box (.t 0), none⟩,
    ⟨(some 2), .mv (.c (.bool false)), none⟩] (some [1]))
  (.seq (.region [⟨(some 3), .fA 1 (.t 1), none⟩,
    ⟨(some 4), .ld none (.t 3), none⟩,
    ⟨(some 5), .lenS (.t 4), none⟩,
    ⟨(some 6), .bin .gtr (.t 5) (.c (.int .i64 0)), none⟩,
    ⟨(some 2), .mv (.t 6), none⟩] (some [2]))
  .ret)), [.t 2]⟩
theorem couple_Couples_1_ok : cFn Tryz.prog (kps [[1], [2]]) [] 58 = some couple_Couples_1_c := by kernel_rfl

abbrev law35_sure : Nat := 59
def law35_sure_c : MFn :=
  ⟨8, (.seq (.region [⟨(some 2), .mv (.c (.nils)), none⟩] (some [0]))
  (.seq (.region [⟨(some 3), .mv (.t 0), none⟩,
    ⟨(some 4), .build [.int .i64 0, .int .i64 0, .nils] [(0, 1, (.c (.int .i64 2))), (1, 1, (.t 3))], none⟩,
    ⟨(some 5), .call 53 [], none⟩,
    ⟨(some 6), .build [.int .i64 0, .int .i64 0, .nils, .bool false, .nils, .nils] [(0, 3, (.t 4)), (3, 3, (.t 5))], none⟩,
    ⟨(some 7), .buildSl 6 1 [.int .i64 0, .int .i64 0, .nils, .bool false, .nils, .nils] [(0, (.t 6))], none⟩,
    ⟨(some 2), .mv (.t 7), none⟩] (some [2]))
  .ret)), [.t 2]⟩
theorem law35_sure_ok : cFn Tryz.prog (kps [[0], [2]]) [] 59 = some law35_sure_c := by kernel_rfl

abbrev couple_place : Nat := 60
def couple_place_c : MFn :=
  ⟨16, (.seq (.region [⟨(some 3), .box (.t 1), none⟩,
    ⟨(some 4), .mv (.c (.int .i64 0)), none⟩] (some [0, 3]))
  (.seq (.region [⟨(some 8), .mv (.t 0), none⟩,
    ⟨(some 9), .ld (some 3) (.t 3), none⟩,
    ⟨(some 10), .call 111 [(.t 8), (.t 9), (.c (.clo 112 []))], none⟩,
    ⟨(some 7), .mv (.t 10), none⟩,
    ⟨(some 11), .ext (.t 7) 0, none⟩,
    ⟨(some 12), .ext (.t 7) 1, none⟩,
    ⟨(some 5), .mv (.t 11), none⟩,
    ⟨(some 6), .mv (.t 12), none⟩] (some [5, 6]))
  (.seq (.seq (.region [⟨(some 13), .mv (.t 6), none⟩,
    ⟨(some 14), .un .not (.t 13), none⟩] (some [5, 14]))
  (.cond (.t 14)
    (.seq (.region [⟨(some 4), .mv (.c (.int .i64 (-1))), none⟩] (some [4]))
    .ret)
    .skip))
  (.seq (.region [⟨(some 15), .mv (.t 5), none⟩,
    ⟨(some 4), .mv (.t 15), none⟩] (some [4]))
  .ret)))), [.t 4]⟩
theorem couple_place_ok : cFn Tryz.prog (kps [[0, 3], [5, 6], [5, 14], [4], [4]]) [] 60 = some couple_place_c := by kernel_rfl

abbrev couple_gathered : Nat := 65
def couple_gathered_c : MFn :=
  ⟨47, (.seq (.region [⟨(some 2), .mv (.c (.nils)), none⟩] (some [0]))
  (.seq (.region [⟨(some 7), .mv (.t 0), none⟩,
    ⟨(some 8), .call 114 [(.t 7), (.c (.clo 55 []))], none⟩] (some [0]))
  (.seq (.region [⟨(some 3), .mv (.c (.nils)), none⟩] (some [0, 3]))
  (.seq (.seq (.region [⟨(some 9), .mv (.t 0), none⟩,
    ⟨(some 10), .lenS (.t 9), none⟩,
    ⟨(some 11), .mv (.c (.int .i64 0)), none⟩] (some [3, 9, 10, 11]))
  (.block 0 (.loop (.seq (.region [⟨(some 12), .bin .lss (.t 11) (.t 10), none⟩] (some [3, 9, 10, 11, 12]))
      (.seq (.cond (.t 12)
        .skip
        (.exit 0))
      (.seq (.block 1 (.seq (.region [⟨(some 13), .ixA 5 (.t 9) (.t 11), none⟩,
          ⟨(some 14), .ld (some 5) (.t 13), none⟩,
          ⟨(some 5), .alloc [.int .i64 0, .int .i64 0, .bool false, .nils, .nils], none⟩,
          ⟨none, .st 5 (.t 5) (.t 14), none⟩] (some [3, 5, 9, 10, 11]))
        (.seq (.seq (.region [⟨(some 15), .mv (.t 3), none⟩,
          ⟨(some 16), .lenS (.t 15), none⟩,
          ⟨(some 17), .bin .sub (.t 16) (.c (.int .i64 1)), none⟩,
          ⟨(some 6), .mv (.t 17), none⟩] (some [3, 5, 6, 9, 10, 11]))
        (.seq (.region [⟨(some 18), .mv (.t 6), none⟩,
          ⟨(some 19), .bin .geq (.t 18) (.c (.int .i64 0)), none⟩,
          ⟨(some 20), .mv (.t 19), none⟩,
          ⟨(some 21), .mv (.t 3), (some (20, true))⟩,
          ⟨(some 22), .mv (.t 6), (some (20, true))⟩,
          ⟨(some 23), .ixA 5 (.t 21) (.t 22), (some (20, true))⟩,
          ⟨(some 24), .ld (some 5) (.t 23), (some (20, true))⟩,
          ⟨(some 25), .ld (some 5) (.t 5), (some (20, true))⟩,
          ⟨(some 26), .callF 55 [(.t 24), (.t 25)], (some (20, true))⟩,
          ⟨(some 27), .bin .eql (.t 26) (.c (.int .i64 0)), (some (20, true))⟩,
          ⟨(some 28), .pick (.t 20) (.t 27) (.c (.bool false)), none⟩] (some [3, 5, 6, 9, 10, 11, 28]))
        (.cond (.t 28)
          (.seq (.region [⟨(some 29), .mv (.t 3), none⟩,
            ⟨(some 30), .mv (.t 6), none⟩,
            ⟨(some 31), .mv (.t 3), none⟩,
            ⟨(some 32), .mv (.t 6), none⟩,
            ⟨(some 33), .ixA 5 (.t 31) (.t 32), none⟩,
            ⟨(some 34), .fA 2 (.t 33), none⟩,
            ⟨(some 35), .ld (some 3) (.t 34), none⟩,
            ⟨(some 36), .fA 2 (.t 5), none⟩,
            ⟨(some 37), .ld (some 3) (.t 36), none⟩,
            ⟨(some 38), .callF 46 [(.t 35), (.t 37)], none⟩,
            ⟨(some 39), .ixA 5 (.t 29) (.t 30), none⟩,
            ⟨(some 40), .fA 2 (.t 39), none⟩,
            ⟨none, .st 3 (.t 40) (.t 38), none⟩] (some [3, 9, 10, 11]))
          (.exit 1))
          .skip)))
        (.region [⟨(some 41), .mv (.t 3), none⟩,
          ⟨(some 42), .ld (some 5) (.t 5), none⟩,
          ⟨(some 43), .buildSl 5 1 [.int .i64 0, .int .i64 0, .bool false, .nils, .nils] [(0, (.t 42))], none⟩,
          ⟨(some 44), .app 5 72 (.t 41) (.t 43), none⟩,
          ⟨(some 3), .mv (.t 44), none⟩] (some [3, 9, 10, 11])))))
      (.region [⟨(some 45), .bin .add (.t 11) (.c (.int .i64 1)), none⟩,
        ⟨(some 11), .mv (.t 45), none⟩] (some [3, 9, 10, 11]))))))))
  (.seq (.region [⟨(some 46), .mv (.t 3), none⟩,
    ⟨(some 2), .mv (.t 46), none⟩] (some [2]))
  .ret))))), [.t 2]⟩
theorem couple_gathered_ok : cFn Tryz.prog (kps [[0], [0], [0, 3], [3, 9, 10, 11], [3, 9, 10, 11, 12], [3, 5, 9, 10, 11], [3, 5, 6, 9, 10, 11], [3, 5, 6, 9, 10, 11, 28], [3, 9, 10, 11], [3, 9, 10, 11], [3, 9, 10, 11], [2]]) [] 65 = some couple_gathered_c := by kernel_rfl

abbrev couple_inOrder : Nat := 66
def couple_inOrder_c : MFn :=
  ⟨74, (.seq (.region [⟨(some 4), .mv (.c (.nils)), none⟩] (some [0, 1]))
  (.seq (.region [⟨(some 5), .mv (.c (.nils)), none⟩] (some [0, 1, 5]))
  (.seq (.seq (.region [⟨(some 6), .mv (.c (.int .i64 0)), none⟩,
    ⟨(some 7), .mv (.c (.int .i64 0)), none⟩] (some [0, 1, 5, 6, 7]))
  (.block 0 (.loop (.seq (.seq (.region [⟨(some 9), .mv (.t 6), none⟩,
        ⟨(some 10), .mv (.t 0), none⟩,
        ⟨(some 11), .lenS (.t 10), none⟩,
        ⟨(some 12), .bin .lss (.t 9) (.t 11), none⟩,
        ⟨(some 13), .mv (.t 12), none⟩,
        ⟨(some 14), .mv (.t 7), (some (13, true))⟩,
        ⟨(some 15), .mv (.t 1), (some (13, true))⟩,
        ⟨(some 16), .lenS (.t 15), (some (13, true))⟩,
        ⟨(some 17), .bin .lss (.t 14) (.t 16), (some (13, true))⟩,
        ⟨(some 18), .pick (.t 13) (.t 17) (.c (.bool false)), none⟩] (some [0, 1, 5, 6, 7, 18]))
      (.cond (.t 18)
        .skip
        (.exit 0)))
      (.block 1 (.block 2 (.seq (.region [⟨(some 54), .mv (.t 0), none⟩,
            ⟨(some 55), .mv (.t 6), none⟩,
            ⟨(some 56), .ixA 3 (.t 54) (.t 55), none⟩,
            ⟨(some 57), .fA 1 (.t 56), none⟩,
            ⟨(some 58), .ld none (.t 57), none⟩,
            ⟨(some 59), .lenS (.t 58), none⟩,
            ⟨(some 60), .bin .eql (.t 59) (.c (.int .i64 0)), none⟩,
            ⟨(some 53), .mv (.t 60), none⟩] (some [0, 1, 5, 6, 7, 53]))
          (.cond (.t 53)
            (.region [⟨(some 61), .mv (.t 6), none⟩,
              ⟨(some 62), .bin .add (.t 61) (.c (.int .i64 1)), none⟩,
              ⟨(some 6), .mv (.t 62), none⟩] (some [0, 1, 5, 6, 7]))
            (.seq (.region [⟨(some 64), .mv (.t 1), none⟩,
              ⟨(some 65), .mv (.t 7), none⟩,
              ⟨(some 66), .ixA 3 (.t 64) (.t 65), none⟩,
              ⟨(some 67), .fA 1 (.t 66), none⟩,
              ⟨(some 68), .ld none (.t 67), none⟩,
              ⟨(some 69), .lenS (.t 68), none⟩,
              ⟨(some 70), .bin .eql (.t 69) (.c (.int .i64 0)), none⟩,
              ⟨(some 63), .mv (.t 70), none⟩] (some [0, 1, 5, 6, 7, 63]))
            (.cond (.t 63)
              (.region [⟨(some 71), .mv (.t 7), none⟩,
                ⟨(some 72), .bin .add (.t 71) (.c (.int .i64 1)), none⟩,
                ⟨(some 7), .mv (.t 72), none⟩] (some [0, 1, 5, 6, 7]))
              (.seq (.region [⟨(some 19), .mv (.t 0), none⟩,
                ⟨(some 20), .mv (.t 6), none⟩,
                ⟨(some 21), .ixA 3 (.t 19) (.t 20), none⟩,
                ⟨(some 22), .ld (some 3) (.t 21), none⟩,
                ⟨(some 23), .mv (.t 1), none⟩,
                ⟨(some 24), .mv (.t 7), none⟩,
                ⟨(some 25), .ixA 3 (.t 23) (.t 24), none⟩,
                ⟨(some 26), .ld (some 3) (.t 25), none⟩,
                ⟨(some 27), .callF 64 [(.t 22), (.t 26)], none⟩,
                ⟨(some 8), .alloc [.bool false, .nils, .nils], none⟩,
                ⟨none, .st 3 (.t 8) (.t 27), none⟩] (some [0, 1, 5, 6, 7, 8]))
              (.seq (.region [⟨(some 28), .mv (.t 5), none⟩,
                ⟨(some 29), .mv (.t 6), none⟩,
                ⟨(some 30), .mv (.t 7), none⟩,
                ⟨(some 31), .ld (some 3) (.t 8), none⟩,
                ⟨(some 32), .build [.int .i64 0, .int .i64 0, .bool false, .nils, .nils] [(0, 1, (.t 29)), (1, 1, (.t 30)), (2, 3, (.t 31))], none⟩,
                ⟨(some 33), .buildSl 5 1 [.int .i64 0, .int .i64 0, .bool false, .nils, .nils] [(0, (.t 32))], none⟩,
                ⟨(some 34), .app 5 72 (.t 28) (.t 33), none⟩,
                ⟨(some 5), .mv (.t 34), none⟩] (some [0, 1, 5, 6, 7, 8]))
              (.region [⟨(some 35), .mv (.t 0), none⟩,
                ⟨(some 36), .mv (.t 6), none⟩,
                ⟨(some 37), .mv (.t 1), none⟩,
                ⟨(some 38), .mv (.t 7), none⟩,
                ⟨(some 39), .mv (.t 0), none⟩,
                ⟨(some 40), .mv (.t 6), none⟩,
                ⟨(some 41), .ixA 3 (.t 39) (.t 40), none⟩,
                ⟨(some 42), .ld (some 3) (.t 41), none⟩,
                ⟨(some 43), .ld (some 3) (.t 8), none⟩,
                ⟨(some 44), .callF 56 [(.t 42), (.t 43)], none⟩,
                ⟨(some 45), .mv (.t 1), none⟩,
                ⟨(some 46), .mv (.t 7), none⟩,
                ⟨(some 47), .ixA 3 (.t 45) (.t 46), none⟩,
                ⟨(some 48), .ld (some 3) (.t 47), none⟩,
                ⟨(some 49), .ld (some 3) (.t 8), none⟩,
                ⟨(some 50), .callF 56 [(.t 48), (.t 49)], none⟩,
                ⟨(some 51), .ixA 3 (.t 35) (.t 36), none⟩,
                ⟨none, .st 3 (.t 51) (.t 44), none⟩,
                ⟨(some 52), .ixA 3 (.t 37) (.t 38), none⟩,
                ⟨none, .st 3 (.t 52) (.t 50), none⟩] (some [0, 1, 5, 6, 7]))))))))))))))
  (.seq (.region [⟨(some 73), .mv (.t 5), none⟩,
    ⟨(some 4), .mv (.t 73), none⟩] (some [4]))
  .ret)))), [.t 4]⟩
theorem couple_inOrder_ok : cFn Tryz.prog (kps [[0, 1], [0, 1, 5], [0, 1, 5, 6, 7], [0, 1, 5, 6, 7, 18], [0, 1, 5, 6, 7, 8], [0, 1, 5, 6, 7, 8], [0, 1, 5, 6, 7], [0, 1, 5, 6, 7, 53], [0, 1, 5, 6, 7], [0, 1, 5, 6, 7, 63], [0, 1, 5, 6, 7], [4]]) [] 66 = some couple_inOrder_c := by kernel_rfl

abbrev ref35_weights : Nat := 67
def ref35_weights_c : MFn :=
  ⟨19, (.seq (.region [⟨(some 2), .mv (.c (.nils)), none⟩] (some [0]))
  (.seq (.region [⟨(some 3), .mv (.c (.nils)), none⟩] (some [0, 3]))
  (.seq (.seq (.region [⟨(some 6), .mv (.t 0), none⟩,
    ⟨(some 7), .lenS (.t 6), none⟩,
    ⟨(some 8), .mv (.c (.int .i64 0)), none⟩] (some [3, 6, 7, 8]))
  (.block 0 (.loop (.seq (.region [⟨(some 9), .bin .lss (.t 8) (.t 7), none⟩] (some [3, 6, 7, 8, 9]))
      (.seq (.cond (.t 9)
        .skip
        (.exit 0))
      (.seq (.block 1 (.seq (.region [⟨(some 10), .ixA 6 (.t 6) (.t 8), none⟩,
          ⟨(some 11), .ld (some 6) (.t 10), none⟩,
          ⟨(some 5), .alloc [.int .i64 0, .int .i64 0, .nils, .bool false, .nils, .nils], none⟩,
          ⟨none, .st 6 (.t 5) (.t 11), none⟩] (some [3, 5, 6, 7, 8]))
        (.region [⟨(some 12), .mv (.t 3), none⟩,
          ⟨(some 13), .fA 3 (.t 5), none⟩,
          ⟨(some 14), .ld (some 3) (.t 13), none⟩,
          ⟨(some 15), .buildSl 3 1 [.bool false, .nils, .nils] [(0, (.t 14))], none⟩,
          ⟨(some 16), .app 3 56 (.t 12) (.t 15), none⟩,
          ⟨(some 3), .mv (.t 16), none⟩] (some [3, 6, 7, 8]))))
      (.region [⟨(some 17), .bin .add (.t 8) (.c (.int .i64 1)), none⟩,
        ⟨(some 8), .mv (.t 17), none⟩] (some [3, 6, 7, 8]))))))))
  (.seq (.region [⟨(some 18), .mv (.t 3), none⟩,
    ⟨(some 2), .mv (.t 18), none⟩] (some [2]))
  .ret)))), [.t 2]⟩
theorem ref35_weights_ok : cFn Tryz.prog (kps [[0], [0, 3], [3, 6, 7, 8], [3, 6, 7, 8, 9], [3, 5, 6, 7, 8], [3, 6, 7, 8], [3, 6, 7, 8], [2]]) [] 67 = some ref35_weights_c := by kernel_rfl

abbrev ref35_put : Nat := 70
def ref35_put_c : MFn :=
  ⟨72, (.seq (.region [⟨(some 3), .box (.t 1), none⟩,
    ⟨(some 4), .mv (.c (.nils)), none⟩] (some [0, 3]))
  (.seq (.region [⟨(some 5), .mv (.c (.nils)), none⟩] (some [0, 3, 5]))
  (.seq (.region [⟨(some 6), .mv (.c (.bool false)), none⟩] (some [0, 3, 5, 6]))
  (.seq (.seq (.region [⟨(some 9), .mv (.t 0), none⟩,
    ⟨(some 10), .lenS (.t 9), none⟩,
    ⟨(some 11), .mv (.c (.int .i64 0)), none⟩] (some [3, 5, 6, 9, 10, 11]))
  (.block 0 (.loop (.seq (.region [⟨(some 12), .bin .lss (.t 11) (.t 10), none⟩] (some [3, 5, 6, 9, 10, 11, 12]))
      (.seq (.cond (.t 12)
        .skip
        (.exit 0))
      (.seq (.block 1 (.seq (.region [⟨(some 13), .ixA 5 (.t 9) (.t 11), none⟩,
          ⟨(some 14), .ld (some 5) (.t 13), none⟩,
          ⟨(some 8), .alloc [.int .i64 0, .int .i64 0, .bool false, .nils, .nils], none⟩,
          ⟨none, .st 5 (.t 8) (.t 14), none⟩] (some [3, 5, 6, 8, 9, 10, 11]))
        (.seq (.seq (.region [⟨(some 15), .fA 0 (.t 8), none⟩,
          ⟨(some 16), .ld none (.t 15), none⟩,
          ⟨(some 17), .fA 0 (.t 3), none⟩,
          ⟨(some 18), .ld none (.t 17), none⟩,
          ⟨(some 19), .bin .eql (.t 16) (.t 18), none⟩,
          ⟨(some 20), .mv (.t 19), none⟩,
          ⟨(some 21), .fA 1 (.t 8), (some (20, true))⟩,
          ⟨(some 22), .ld none (.t 21), (some (20, true))⟩,
          ⟨(some 23), .fA 1 (.t 3), (some (20, true))⟩,
          ⟨(some 24), .ld none (.t 23), (some (20, true))⟩,
          ⟨(some 25), .bin .eql (.t 22) (.t 24), (some (20, true))⟩,
          ⟨(some 26), .pick (.t 20) (.t 25) (.c (.bool false)), none⟩] (some [3, 5, 6, 8, 9, 10, 11, 26]))
        (.cond (.t 26)
          (.seq (.region [⟨(some 27), .fA 2 (.t 8), none⟩,
            ⟨(some 28), .ld (some 3) (.t 27), none⟩,
            ⟨(some 29), .fA 2 (.t 3), none⟩,
            ⟨(some 30), .ld (some 3) (.t 29), none⟩,
            ⟨(some 31), .call 30 [(.t 28), (.t 30)], none⟩,
            ⟨(some 32), .fA 2 (.t 8), none⟩,
            ⟨none, .st 3 (.t 32) (.t 31), none⟩] (some [3, 5, 8, 9, 10, 11]))
          (.region [⟨(some 6), .mv (.c (.bool true)), none⟩] (some [3, 5, 6, 8, 9, 10, 11])))
          .skip))
        (.seq (.seq (.region [⟨(some 33), .mv (.t 6), none⟩,
          ⟨(some 34), .un .not (.t 33), none⟩,
          ⟨(some 35), .mv (.t 34), none⟩,
          ⟨(some 36), .fA 0 (.t 3), (some (35, true))⟩,
          ⟨(some 37), .ld none (.t 36), (some (35, true))⟩,
          ⟨(some 38), .fA 0 (.t 8), (some (35, true))⟩,
          ⟨(some 39), .ld none (.t 38), (some (35, true))⟩,
          ⟨(some 40), .bin .lss (.t 37) (.t 39), (some (35, true))⟩,
          ⟨(some 41), .mv (.t 40), (some (35, true))⟩,
          ⟨(some 42), .fA 0 (.t 3), (some (41, false))⟩,
          ⟨(some 43), .ld none (.t 42), (some (41, false))⟩,
          ⟨(some 44), .fA 0 (.t 8), (some (41, false))⟩,
          ⟨(some 45), .ld none (.t 44), (some (41, false))⟩,
          ⟨(some 46), .bin .eql (.t 43) (.t 45), (some (41, false))⟩,
          ⟨(some 47), .mv (.t 46), (some (41, false))⟩,
          ⟨(some 48), .fA 1 (.t 3), (some (47, true))⟩,
          ⟨(some 49), .ld none (.t 48), (some (47, true))⟩,
          ⟨(some 50), .fA 1 (.t 8), (some (47, true))⟩,
          ⟨(some 51), .ld none (.t 50), (some (47, true))⟩,
          ⟨(some 52), .bin .lss (.t 49) (.t 51), (some (47, true))⟩,
          ⟨(some 53), .pick (.t 47) (.t 52) (.c (.bool false)), (some (41, false))⟩,
          ⟨(some 54), .pick (.t 41) (.c (.bool true)) (.t 53), (some (35, true))⟩,
          ⟨(some 55), .pick (.t 35) (.t 54) (.c (.bool false)), none⟩] (some [3, 5, 6, 8, 9, 10, 11, 55]))
        (.cond (.t 55)
          (.seq (.region [⟨(some 56), .mv (.t 5), none⟩,
            ⟨(some 57), .ld (some 5) (.t 3), none⟩,
            ⟨(some 58), .buildSl 5 1 [.int .i64 0, .int .i64 0, .bool false, .nils, .nils] [(0, (.t 57))], none⟩,
            ⟨(some 59), .app 5 72 (.t 56) (.t 58), none⟩,
            ⟨(some 5), .mv (.t 59), none⟩] (some [3, 5, 8, 9, 10, 11]))
          (.region [⟨(some 6), .mv (.c (.bool true)), none⟩] (some [3, 5, 6, 8, 9, 10, 11])))
          .skip))
        (.region [⟨(some 60), .mv (.t 5), none⟩,
          ⟨(some 61), .ld (some 5) (.t 8), none⟩,
          ⟨(some 62), .buildSl 5 1 [.int .i64 0, .int .i64 0, .bool false, .nils, .nils] [(0, (.t 61))], none⟩,
          ⟨(some 63), .app 5 72 (.t 60) (.t 62), none⟩,
          ⟨(some 5), .mv (.t 63), none⟩] (some [3, 5, 6, 9, 10, 11]))))))
      (.region [⟨(some 64), .bin .add (.t 11) (.c (.int .i64 1)), none⟩,
        ⟨(some 11), .mv (.t 64), none⟩] (some [3, 5, 6, 9, 10, 11]))))))))
  (.seq (.seq (.region [⟨(some 65), .mv (.t 6), none⟩,
    ⟨(some 66), .un .not (.t 65), none⟩] (some [3, 5, 66]))
  (.cond (.t 66)
    (.region [⟨(some 67), .mv (.t 5), none⟩,
      ⟨(some 68), .ld (some 5) (.t 3), none⟩,
      ⟨(some 69), .buildSl 5 1 [.int .i64 0, .int .i64 0, .bool false, .nils, .nils] [(0, (.t 68))], none⟩,
      ⟨(some 70), .app 5 72 (.t 67) (.t 69), none⟩,
      ⟨(some 5), .mv (.t 70), none⟩] (some [5]))
    .skip))
  (.seq (.region [⟨(some 71), .mv (.t 5), none⟩,
    ⟨(some 4), .mv (.t 71), none⟩] (some [4]))
  .ret)))))), [.t 4]⟩
theorem ref35_put_ok : cFn Tryz.prog (kps [[0, 3], [0, 3, 5], [0, 3, 5, 6], [3, 5, 6, 9, 10, 11], [3, 5, 6, 9, 10, 11, 12], [3, 5, 6, 8, 9, 10, 11], [3, 5, 6, 8, 9, 10, 11, 26], [3, 5, 8, 9, 10, 11], [3, 5, 6, 8, 9, 10, 11], [3, 5, 6, 8, 9, 10, 11, 55], [3, 5, 8, 9, 10, 11], [3, 5, 6, 8, 9, 10, 11], [3, 5, 6, 9, 10, 11], [3, 5, 6, 9, 10, 11], [3, 5, 66], [5], [4]]) [] 70 = some ref35_put_c := by kernel_rfl

abbrev ref35_paired : Nat := 71
def ref35_paired_c : MFn :=
  ⟨67, (.seq (.region [⟨(some 6), .mv (.c (.nils)), none⟩] (some [0, 1, 2]))
  (.seq (.region [⟨(some 7), .mv (.c (.int .i64 0)), none⟩,
    ⟨(some 8), .mv (.c (.int .i64 0)), none⟩] (some [0, 1, 2, 7, 8]))
  (.seq (.block 0 (.loop (.seq (.seq (.region [⟨(some 10), .mv (.t 7), none⟩,
        ⟨(some 11), .mv (.t 1), none⟩,
        ⟨(some 12), .lenS (.t 11), none⟩,
        ⟨(some 13), .bin .lss (.t 10) (.t 12), none⟩,
        ⟨(some 14), .mv (.t 13), none⟩,
        ⟨(some 15), .mv (.t 8), (some (14, true))⟩,
        ⟨(some 16), .mv (.t 2), (some (14, true))⟩,
        ⟨(some 17), .lenS (.t 16), (some (14, true))⟩,
        ⟨(some 18), .bin .lss (.t 15) (.t 17), (some (14, true))⟩,
        ⟨(some 19), .pick (.t 14) (.t 18) (.c (.bool false)), none⟩] (some [0, 1, 2, 7, 8, 19]))
      (.cond (.t 19)
        .skip
        (.exit 0)))
      (.block 1 (.seq (.region [⟨(some 20), .mv (.t 1), none⟩,
          ⟨(some 21), .mv (.t 7), none⟩,
          ⟨(some 22), .ixA 3 (.t 20) (.t 21), none⟩,
          ⟨(some 23), .ld (some 3) (.t 22), none⟩,
          ⟨(some 24), .mv (.t 2), none⟩,
          ⟨(some 25), .mv (.t 8), none⟩,
          ⟨(some 26), .ixA 3 (.t 24) (.t 25), none⟩,
          ⟨(some 27), .ld (some 3) (.t 26), none⟩,
          ⟨(some 28), .callF 69 [(.t 23), (.t 27)], none⟩,
          ⟨(some 9), .alloc [.bool false, .nils, .nils], none⟩,
          ⟨none, .st 3 (.t 9) (.t 28), none⟩] (some [0, 1, 2, 7, 8, 9]))
        (.seq (.seq (.region [⟨(some 29), .ld (some 3) (.t 9), none⟩,
          ⟨(some 30), .call 51 [(.t 29)], none⟩,
          ⟨(some 31), .bin .gtr (.t 30) (.c (.int .i64 0)), none⟩] (some [0, 1, 2, 7, 8, 9, 31]))
        (.cond (.t 31)
          (.seq (.region [⟨(some 32), .mv (.t 0), none⟩,
            ⟨(some 33), .mv (.t 7), none⟩,
            ⟨(some 34), .mv (.t 8), none⟩,
            ⟨(some 35), .ld (some 3) (.t 9), none⟩,
            ⟨(some 36), .build [.int .i64 0, .int .i64 0, .bool false, .nils, .nils] [(0, 1, (.t 33)), (1, 1, (.t 34)), (2, 3, (.t 35))], none⟩,
            ⟨(some 37), .call 70 [(.t 32), (.t 36)], none⟩,
            ⟨(some 0), .mv (.t 37), none⟩] (some [0, 1, 2, 7, 8, 9]))
          (.region [⟨(some 38), .mv (.t 1), none⟩,
            ⟨(some 39), .mv (.t 7), none⟩,
            ⟨(some 40), .mv (.t 2), none⟩,
            ⟨(some 41), .mv (.t 8), none⟩,
            ⟨(some 42), .mv (.t 1), none⟩,
            ⟨(some 43), .mv (.t 7), none⟩,
            ⟨(some 44), .ixA 3 (.t 42) (.t 43), none⟩,
            ⟨(some 45), .ld (some 3) (.t 44), none⟩,
            ⟨(some 46), .ld (some 3) (.t 9), none⟩,
            ⟨(some 47), .callF 31 [(.t 45), (.t 46)], none⟩,
            ⟨(some 48), .mv (.t 2), none⟩,
            ⟨(some 49), .mv (.t 8), none⟩,
            ⟨(some 50), .ixA 3 (.t 48) (.t 49), none⟩,
            ⟨(some 51), .ld (some 3) (.t 50), none⟩,
            ⟨(some 52), .ld (some 3) (.t 9), none⟩,
            ⟨(some 53), .callF 31 [(.t 51), (.t 52)], none⟩,
            ⟨(some 54), .ixA 3 (.t 38) (.t 39), none⟩,
            ⟨none, .st 3 (.t 54) (.t 47), none⟩,
            ⟨(some 55), .ixA 3 (.t 40) (.t 41), none⟩,
            ⟨none, .st 3 (.t 55) (.t 53), none⟩] (some [0, 1, 2, 7, 8])))
          .skip))
        (.seq (.region [⟨(some 56), .mv (.t 1), none⟩,
          ⟨(some 57), .mv (.t 7), none⟩,
          ⟨(some 58), .ixA 3 (.t 56) (.t 57), none⟩,
          ⟨(some 59), .ld (some 3) (.t 58), none⟩,
          ⟨(some 60), .call 51 [(.t 59)], none⟩,
          ⟨(some 61), .bin .eql (.t 60) (.c (.int .i64 0)), none⟩] (some [0, 1, 2, 7, 8, 61]))
        (.cond (.t 61)
          (.region [⟨(some 62), .mv (.t 7), none⟩,
            ⟨(some 63), .bin .add (.t 62) (.c (.int .i64 1)), none⟩,
            ⟨(some 7), .mv (.t 63), none⟩] (some [0, 1, 2, 7, 8]))
          (.region [⟨(some 64), .mv (.t 8), none⟩,
            ⟨(some 65), .bin .add (.t 64) (.c (.int .i64 1)), none⟩,
            ⟨(some 8), .mv (.t 65), none⟩] (some [0, 1, 2, 7, 8]))))))))))
  (.seq (.region [⟨(some 66), .mv (.t 0), none⟩,
    ⟨(some 6), .mv (.t 66), none⟩] (some [6]))
  .ret)))), [.t 6]⟩
theorem ref35_paired_ok : cFn Tryz.prog (kps [[0, 1, 2], [0, 1, 2, 7, 8], [0, 1, 2, 7, 8, 19], [0, 1, 2, 7, 8, 9], [0, 1, 2, 7, 8, 9, 31], [0, 1, 2, 7, 8, 9], [0, 1, 2, 7, 8], [0, 1, 2, 7, 8, 61], [0, 1, 2, 7, 8], [0, 1, 2, 7, 8], [6]]) [] 71 = some ref35_paired_c := by kernel_rfl

abbrev couple_related : Nat := 79
def couple_related_c : MFn :=
  ⟨64, (.seq (.region [⟨(some 6), .mv (.c (.nils)), none⟩] (some [0, 1, 2]))
  (.seq (.region [⟨(some 11), .mv (.t 0), none⟩,
    ⟨(some 12), .lenS (.t 11), none⟩,
    ⟨(some 13), .mkSl 1 24 [.nils] (.t 12) (.t 12), none⟩,
    ⟨(some 7), .mv (.t 13), none⟩] (some [0, 1, 2, 7]))
  (.seq (.seq (.region [⟨(some 14), .mv (.t 7), none⟩,
    ⟨(some 15), .lenS (.t 14), none⟩,
    ⟨(some 16), .mv (.c (.int .i64 0)), none⟩] (some [0, 1, 2, 7, 15, 16]))
  (.block 0 (.loop (.seq (.region [⟨(some 17), .bin .lss (.t 16) (.t 15), none⟩] (some [0, 1, 2, 7, 15, 16, 17]))
      (.seq (.cond (.t 17)
        .skip
        (.exit 0))
      (.seq (.block 1 (.seq (.region [⟨(some 18), .mv (.t 16), none⟩,
          ⟨(some 8), .mv (.t 18), none⟩] (some [0, 1, 2, 7, 8, 15, 16]))
        (.region [⟨(some 19), .mv (.t 7), none⟩,
          ⟨(some 20), .mv (.t 8), none⟩,
          ⟨(some 21), .mv (.t 1), none⟩,
          ⟨(some 22), .lenS (.t 21), none⟩,
          ⟨(some 23), .mkSl 1 1 [.bool false] (.t 22) (.t 22), none⟩,
          ⟨(some 24), .ixA 1 (.t 19) (.t 20), none⟩,
          ⟨none, .st 1 (.t 24) (.t 23), none⟩] (some [0, 1, 2, 7, 15, 16]))))
      (.region [⟨(some 25), .bin .add (.t 16) (.c (.int .i64 1)), none⟩,
        ⟨(some 16), .mv (.t 25), none⟩] (some [0, 1, 2, 7, 15, 16]))))))))
  (.seq (.seq (.region [⟨(some 26), .mv (.t 2), none⟩,
    ⟨(some 27), .lenS (.t 26), none⟩,
    ⟨(some 28), .mv (.c (.int .i64 0)), none⟩] (some [0, 1, 7, 26, 27, 28]))
  (.block 2 (.loop (.seq (.region [⟨(some 29), .bin .lss (.t 28) (.t 27), none⟩] (some [0, 1, 7, 26, 27, 28, 29]))
      (.seq (.cond (.t 29)
        .skip
        (.exit 2))
      (.seq (.block 3 (.seq (.region [⟨(some 30), .ixA 2 (.t 26) (.t 28), none⟩,
          ⟨(some 31), .ld (some 2) (.t 30), none⟩,
          ⟨(some 10), .alloc [.int .i64 0, .int .i64 0], none⟩,
          ⟨none, .st 2 (.t 10) (.t 31), none⟩] (some [0, 1, 7, 10, 26, 27, 28]))
        (.seq (.region [⟨(some 32), .ixArr 2 1 (.t 10) (.c (.int .i64 0)), none⟩,
          ⟨(some 33), .ld none (.t 32), none⟩,
          ⟨(some 34), .bin .geq (.t 33) (.c (.int .i64 0)), none⟩,
          ⟨(some 35), .mv (.t 34), none⟩,
          ⟨(some 36), .ixArr 2 1 (.t 10) (.c (.int .i64 0)), (some (35, true))⟩,
          ⟨(some 37), .ld none (.t 36), (some (35, true))⟩,
          ⟨(some 38), .mv (.t 0), (some (35, true))⟩,
          ⟨(some 39), .lenS (.t 38), (some (35, true))⟩,
          ⟨(some 40), .bin .lss (.t 37) (.t 39), (some (35, true))⟩,
          ⟨(some 41), .pick (.t 35) (.t 40) (.c (.bool false)), none⟩,
          ⟨(some 42), .mv (.t 41), none⟩,
          ⟨(some 43), .ixArr 2 1 (.t 10) (.c (.int .i64 1)), (some (42, true))⟩,
          ⟨(some 44), .ld none (.t 43), (some (42, true))⟩,
          ⟨(some 45), .bin .geq (.t 44) (.c (.int .i64 0)), (some (42, true))⟩,
          ⟨(some 46), .pick (.t 42) (.t 45) (.c (.bool false)), none⟩,
          ⟨(some 47), .mv (.t 46), none⟩,
          ⟨(some 48), .ixArr 2 1 (.t 10) (.c (.int .i64 1)), (some (47, true))⟩,
          ⟨(some 49), .ld none (.t 48), (some (47, true))⟩,
          ⟨(some 50), .mv (.t 1), (some (47, true))⟩,
          ⟨(some 51), .lenS (.t 50), (some (47, true))⟩,
          ⟨(some 52), .bin .lss (.t 49) (.t 51), (some (47, true))⟩,
          ⟨(some 53), .pick (.t 47) (.t 52) (.c (.bool false)), none⟩] (some [0, 1, 7, 10, 26, 27, 28, 53]))
        (.cond (.t 53)
          (.region [⟨(some 54), .mv (.t 7), none⟩,
            ⟨(some 55), .ixArr 2 1 (.t 10) (.c (.int .i64 0)), none⟩,
            ⟨(some 56), .ld none (.t 55), none⟩,
            ⟨(some 57), .ixA 1 (.t 54) (.t 56), none⟩,
            ⟨(some 58), .ld none (.t 57), none⟩,
            ⟨(some 59), .ixArr 2 1 (.t 10) (.c (.int .i64 1)), none⟩,
            ⟨(some 60), .ld none (.t 59), none⟩,
            ⟨(some 61), .ixA 1 (.t 58) (.t 60), none⟩,
            ⟨none, .st 1 (.t 61) (.c (.bool true)), none⟩] (some [0, 1, 7, 26, 27, 28]))
          .skip))))
      (.region [⟨(some 62), .bin .add (.t 28) (.c (.int .i64 1)), none⟩,
        ⟨(some 28), .mv (.t 62), none⟩] (some [0, 1, 7, 26, 27, 28]))))))))
  (.seq (.region [⟨(some 63), .mv (.t 7), none⟩,
    ⟨(some 6), .mv (.t 63), none⟩] (some [6]))
  .ret))))), [.t 6]⟩
theorem couple_related_ok : cFn Tryz.prog (kps [[0, 1, 2], [0, 1, 2, 7], [0, 1, 2, 7, 15, 16], [0, 1, 2, 7, 15, 16, 17], [0, 1, 2, 7, 8, 15, 16], [0, 1, 2, 7, 15, 16], [0, 1, 2, 7, 15, 16], [0, 1, 7, 26, 27, 28], [0, 1, 7, 26, 27, 28, 29], [0, 1, 7, 10, 26, 27, 28], [0, 1, 7, 10, 26, 27, 28, 53], [0, 1, 7, 26, 27, 28], [0, 1, 7, 26, 27, 28], [6]]) [] 79 = some couple_related_c := by kernel_rfl

abbrev slices_ContainsFunc_Sint_int : Nat := 80
def slices_ContainsFunc_Sint_int_c : MFn :=
  ⟨9, (.seq (.region [⟨(some 4), .mv (.c (.bool false)), none⟩] (some [0, 1]))
  (.seq (.region [⟨(some 5), .mv (.t 0), none⟩,
    ⟨(some 6), .mv (.t 1), none⟩,
    ⟨(some 7), .call 119 [(.t 5), (.t 6)], none⟩,
    ⟨(some 8), .bin .geq (.t 7) (.c (.int .i64 0)), none⟩,
    ⟨(some 4), .mv (.t 8), none⟩] (some [4]))
  .ret)), [.t 4]⟩
theorem slices_ContainsFunc_Sint_int_ok : cFn Tryz.prog (kps [[0, 1], [4]]) [] 80 = some slices_ContainsFunc_Sint_int_c := by kernel_rfl

abbrev couple_Blocks_1 : Nat := 81
def couple_Blocks_1_c : MFn :=
  ⟨12, (.seq (.region [⟨(some 4), .mv (.c (.bool false)), none⟩] (some [0, 1, 2]))
  (.seq (.region [⟨(some 5), .ld none (.t 1), none⟩,
    ⟨(some 6), .mv (.t 0), none⟩,
    ⟨(some 7), .ixA 1 (.t 5) (.t 6), none⟩,
    ⟨(some 8), .ld none (.t 7), none⟩,
    ⟨(some 9), .ld none (.t 2), none⟩,
    ⟨(some 10), .ixA 1 (.t 8) (.t 9), none⟩,
    ⟨(some 11), .ld none (.t 10), none⟩,
    ⟨(some 4), .mv (.t 11), none⟩] (some [4]))
  .ret)), [.t 4]⟩
theorem couple_Blocks_1_ok : cFn Tryz.prog (kps [[0, 1, 2], [4]]) [] 81 = some couple_Blocks_1_c := by kernel_rfl

abbrev slices_ContainsFunc_Part_Part : Nat := 83
def slices_ContainsFunc_Part_Part_c : MFn :=
  ⟨9, (.seq (.region [⟨(some 4), .mv (.c (.bool false)), none⟩] (some [0, 1]))
  (.seq (.region [⟨(some 5), .mv (.t 0), none⟩,
    ⟨(some 6), .mv (.t 1), none⟩,
    ⟨(some 7), .call 120 [(.t 5), (.t 6)], none⟩,
    ⟨(some 8), .bin .geq (.t 7) (.c (.int .i64 0)), none⟩,
    ⟨(some 4), .mv (.t 8), none⟩] (some [4]))
  .ret)), [.t 4]⟩
theorem slices_ContainsFunc_Part_Part_ok : cFn Tryz.prog (kps [[0, 1], [4]]) [] 83 = some slices_ContainsFunc_Part_Part_c := by kernel_rfl

abbrev couple_Below_1 : Nat := 85
def couple_Below_1_c : MFn :=
  ⟨7, (.seq (.region [⟨(some 1), .box (.t 0), none⟩,
    ⟨(some 2), .mv (.c (.bool false)), none⟩] (some [1]))
  (.seq (.region [⟨(some 3), .fA 0 (.t 1), none⟩,
    ⟨(some 4), .fA 0 (.t 3), none⟩,
    ⟨(some 5), .ld none (.t 4), none⟩,
    ⟨(some 6), .bin .neq (.t 5) (.c (.int .i64 2)), none⟩,
    ⟨(some 2), .mv (.t 6), none⟩] (some [2]))
  .ret)), [.t 2]⟩
theorem couple_Below_1_ok : cFn Tryz.prog (kps [[1], [2]]) [] 85 = some couple_Below_1_c := by kernel_rfl

abbrev slices_IndexFunc_Ratio_Ratio : Nat := 110
def slices_IndexFunc_Ratio_Ratio_c : MFn :=
  ⟨19, (.seq (.region [⟨(some 4), .mv (.c (.int .i64 0)), none⟩] (some [0, 1]))
  (.seq (.seq (.region [⟨(some 6), .mv (.t 0), none⟩,
    ⟨(some 7), .lenS (.t 6), none⟩,
    ⟨(some 8), .mv (.c (.int .i64 0)), none⟩] (some [0, 1, 7, 8]))
  (.block 0 (.loop (.seq (.region [⟨(some 9), .bin .lss (.t 8) (.t 7), none⟩] (some [0, 1, 7, 8, 9]))
      (.seq (.cond (.t 9)
        .skip
        (.exit 0))
      (.seq (.block 1 (.seq (.region [⟨(some 10), .mv (.t 8), none⟩,
          ⟨(some 5), .mv (.t 10), none⟩] (some [0, 1, 5, 7, 8]))
        (.seq (.region [⟨(some 11), .mv (.t 1), none⟩,
          ⟨(some 12), .mv (.t 0), none⟩,
          ⟨(some 13), .mv (.t 5), none⟩,
          ⟨(some 14), .ixA 3 (.t 12) (.t 13), none⟩,
          ⟨(some 15), .ld (some 3) (.t 14), none⟩,
          ⟨(some 16), .callV (.t 11) [(.t 15)], none⟩] (some [0, 1, 5, 7, 8, 16]))
        (.cond (.t 16)
          (.seq (.region [⟨(some 17), .mv (.t 5), none⟩,
            ⟨(some 4), .mv (.t 17), none⟩] (some [4]))
          .ret)
          .skip))))
      (.region [⟨(some 18), .bin .add (.t 8) (.c (.int .i64 1)), none⟩,
        ⟨(some 8), .mv (.t 18), none⟩] (some [0, 1, 7, 8]))))))))
  (.seq (.region [⟨(some 4), .mv (.c (.int .i64 (-1))), none⟩] (some [4]))
  .ret))), [.t 4]⟩
theorem slices_IndexFunc_Ratio_Ratio_ok : cFn Tryz.prog (kps [[0, 1], [0, 1, 7, 8], [0, 1, 7, 8, 9], [0, 1, 5, 7, 8], [0, 1, 5, 7, 8, 16], [4], [0, 1, 7, 8], [4]]) [] 110 = some slices_IndexFunc_Ratio_Ratio_c := by kernel_rfl

abbrev slices_BinarySearchFunc_Part_Part_Value : Nat := 111
def slices_BinarySearchFunc_Part_Part_Value_c : MFn :=
  ⟨49, (.seq (.region [⟨(some 4), .box (.t 1), none⟩,
    ⟨(some 6), .mv (.c (.int .i64 0)), none⟩,
    ⟨(some 7), .mv (.c (.bool false)), none⟩] (some [0, 2, 4]))
  (.seq (.region [⟨(some 12), .mv (.t 0), none⟩,
    ⟨(some 13), .lenS (.t 12), none⟩,
    ⟨(some 8), .mv (.t 13), none⟩] (some [0, 2, 4, 8]))
  (.seq (.region [⟨(some 14), .mv (.t 8), none⟩,
    ⟨(some 9), .mv (.c (.int .i64 0)), none⟩,
    ⟨(some 10), .mv (.t 14), none⟩] (some [0, 2, 4, 8, 9, 10]))
  (.seq (.block 0 (.loop (.seq (.seq (.region [⟨(some 15), .mv (.t 9), none⟩,
        ⟨(some 16), .mv (.t 10), none⟩,
        ⟨(some 17), .bin .lss (.t 15) (.t 16), none⟩] (some [0, 2, 4, 8, 9, 10, 17]))
      (.cond (.t 17)
        .skip
        (.exit 0)))
      (.block 1 (.seq (.region [⟨(some 18), .mv (.t 9), none⟩,
          ⟨(some 19), .mv (.t 10), none⟩,
          ⟨(some 20), .bin .add (.t 18) (.t 19), none⟩,
          ⟨(some 21), .cvt .u64 (.t 20), none⟩,
          ⟨(some 22), .bin .shr (.t 21) (.c (.int .u64 1)), none⟩,
          ⟨(some 23), .cvt .i64 (.t 22), none⟩,
          ⟨(some 11), .mv (.t 23), none⟩] (some [0, 2, 4, 8, 9, 10, 11]))
        (.seq (.region [⟨(some 24), .mv (.t 2), none⟩,
          ⟨(some 25), .mv (.t 0), none⟩,
          ⟨(some 26), .mv (.t 11), none⟩,
          ⟨(some 27), .ixA 6 (.t 25) (.t 26), none⟩,
          ⟨(some 28), .ld (some 6) (.t 27), none⟩,
          ⟨(some 29), .ld (some 3) (.t 4), none⟩,
          ⟨(some 30), .callVF (.t 24) [(.t 28), (.t 29)], none⟩,
          ⟨(some 31), .bin .lss (.t 30) (.c (.int .i64 0)), none⟩] (some [0, 2, 4, 8, 9, 10, 11, 31]))
        (.cond (.t 31)
          (.region [⟨(some 32), .mv (.t 11), none⟩,
            ⟨(some 33), .bin .add (.t 32) (.c (.int .i64 1)), none⟩,
            ⟨(some 9), .mv (.t 33), none⟩] (some [0, 2, 4, 8, 9, 10]))
          (.region [⟨(some 34), .mv (.t 11), none⟩,
            ⟨(some 10), .mv (.t 34), none⟩] (some [0, 2, 4, 8, 9, 10])))))))))
  (.seq (.region [⟨(some 35), .mv (.t 9), none⟩,
    ⟨(some 36), .mv (.t 9), none⟩,
    ⟨(some 37), .mv (.t 8), none⟩,
    ⟨(some 38), .bin .lss (.t 36) (.t 37), none⟩,
    ⟨(some 39), .mv (.t 38), none⟩,
    ⟨(some 40), .mv (.t 2), (some (39, true))⟩,
    ⟨(some 41), .mv (.t 0), (some (39, true))⟩,
    ⟨(some 42), .mv (.t 9), (some (39, true))⟩,
    ⟨(some 43), .ixA 6 (.t 41) (.t 42), (some (39, true))⟩,
    ⟨(some 44), .ld (some 6) (.t 43), (some (39, true))⟩,
    ⟨(some 45), .ld (some 3) (.t 4), (some (39, true))⟩,
    ⟨(some 46), .callVF (.t 40) [(.t 44), (.t 45)], (some (39, true))⟩,
    ⟨(some 47), .bin .eql (.t 46) (.c (.int .i64 0)), (some (39, true))⟩,
    ⟨(some 48), .pick (.t 39) (.t 47) (.c (.bool false)), none⟩,
    ⟨(some 6), .mv (.t 35), none⟩,
    ⟨(some 7), .mv (.t 48), none⟩] (some [6, 7]))
  .ret))))), [.t 6, .t 7]⟩
theorem slices_BinarySearchFunc_Part_Part_Value_ok : cFn Tryz.prog (kps [[0, 2, 4], [0, 2, 4, 8], [0, 2, 4, 8, 9, 10], [0, 2, 4, 8, 9, 10, 17], [0, 2, 4, 8, 9, 10, 11], [0, 2, 4, 8, 9, 10, 11, 31], [0, 2, 4, 8, 9, 10], [0, 2, 4, 8, 9, 10], [6, 7]]) [] 111 = some slices_BinarySearchFunc_Part_Part_Value_c := by kernel_rfl

abbrev couple_place_1 : Nat := 112
def couple_place_1_c : MFn :=
  ⟨9, (.seq (.region [⟨(some 2), .box (.t 0), none⟩,
    ⟨(some 3), .box (.t 1), none⟩,
    ⟨(some 4), .mv (.c (.int .i64 0)), none⟩] (some [2, 3]))
  (.seq (.region [⟨(some 5), .fA 0 (.t 2), none⟩,
    ⟨(some 6), .ld (some 3) (.t 5), none⟩,
    ⟨(some 7), .ld (some 3) (.t 3), none⟩,
    ⟨(some 8), .call 45 [(.t 6), (.t 7)], none⟩,
    ⟨(some 4), .mv (.t 8), none⟩] (some [4]))
  .ret)), [.t 4]⟩
theorem couple_place_1_ok : cFn Tryz.prog (kps [[2, 3], [4]]) [] 112 = some couple_place_1_c := by kernel_rfl

abbrev slices_SortStableFunc_Pair_Pair : Nat := 114
def slices_SortStableFunc_Pair_Pair_c : MFn :=
  ⟨9, (.region [⟨(some 4), .mv (.t 0), none⟩,
    ⟨(some 5), .mv (.t 0), none⟩,
    ⟨(some 6), .lenS (.t 5), none⟩,
    ⟨(some 7), .mv (.t 1), none⟩,
    ⟨(some 8), .call 136 [(.t 4), (.t 6), (.t 7)], none⟩] (some [])), []⟩
theorem slices_SortStableFunc_Pair_Pair_ok : cFn Tryz.prog (kps [[]]) [] 114 = some slices_SortStableFunc_Pair_Pair_c := by kernel_rfl

abbrev slices_IndexFunc_Sint_int : Nat := 119
def slices_IndexFunc_Sint_int_c : MFn :=
  ⟨19, (.seq (.region [⟨(some 4), .mv (.c (.int .i64 0)), none⟩] (some [0, 1]))
  (.seq (.seq (.region [⟨(some 6), .mv (.t 0), none⟩,
    ⟨(some 7), .lenS (.t 6), none⟩,
    ⟨(some 8), .mv (.c (.int .i64 0)), none⟩] (some [0, 1, 7, 8]))
  (.block 0 (.loop (.seq (.region [⟨(some 9), .bin .lss (.t 8) (.t 7), none⟩] (some [0, 1, 7, 8, 9]))
      (.seq (.cond (.t 9)
        .skip
        (.exit 0))
      (.seq (.block 1 (.seq (.region [⟨(some 10), .mv (.t 8), none⟩,
          ⟨(some 5), .mv (.t 10), none⟩] (some [0, 1, 5, 7, 8]))
        (.seq (.region [⟨(some 11), .mv (.t 1), none⟩,
          ⟨(some 12), .mv (.t 0), none⟩,
          ⟨(some 13), .mv (.t 5), none⟩,
          ⟨(some 14), .ixA 1 (.t 12) (.t 13), none⟩,
          ⟨(some 15), .ld none (.t 14), none⟩,
          ⟨(some 16), .callV (.t 11) [(.t 15)], none⟩] (some [0, 1, 5, 7, 8, 16]))
        (.cond (.t 16)
          (.seq (.region [⟨(some 17), .mv (.t 5), none⟩,
            ⟨(some 4), .mv (.t 17), none⟩] (some [4]))
          .ret)
          .skip))))
      (.region [⟨(some 18), .bin .add (.t 8) (.c (.int .i64 1)), none⟩,
        ⟨(some 8), .mv (.t 18), none⟩] (some [0, 1, 7, 8]))))))))
  (.seq (.region [⟨(some 4), .mv (.c (.int .i64 (-1))), none⟩] (some [4]))
  .ret))), [.t 4]⟩
theorem slices_IndexFunc_Sint_int_ok : cFn Tryz.prog (kps [[0, 1], [0, 1, 7, 8], [0, 1, 7, 8, 9], [0, 1, 5, 7, 8], [0, 1, 5, 7, 8, 16], [4], [0, 1, 7, 8], [4]]) [] 119 = some slices_IndexFunc_Sint_int_c := by kernel_rfl

abbrev slices_IndexFunc_Part_Part : Nat := 120
def slices_IndexFunc_Part_Part_c : MFn :=
  ⟨19, (.seq (.region [⟨(some 4), .mv (.c (.int .i64 0)), none⟩] (some [0, 1]))
  (.seq (.seq (.region [⟨(some 6), .mv (.t 0), none⟩,
    ⟨(some 7), .lenS (.t 6), none⟩,
    ⟨(some 8), .mv (.c (.int .i64 0)), none⟩] (some [0, 1, 7, 8]))
  (.block 0 (.loop (.seq (.region [⟨(some 9), .bin .lss (.t 8) (.t 7), none⟩] (some [0, 1, 7, 8, 9]))
      (.seq (.cond (.t 9)
        .skip
        (.exit 0))
      (.seq (.block 1 (.seq (.region [⟨(some 10), .mv (.t 8), none⟩,
          ⟨(some 5), .mv (.t 10), none⟩] (some [0, 1, 5, 7, 8]))
        (.seq (.region [⟨(some 11), .mv (.t 1), none⟩,
          ⟨(some 12), .mv (.t 0), none⟩,
          ⟨(some 13), .mv (.t 5), none⟩,
          ⟨(some 14), .ixA 6 (.t 12) (.t 13), none⟩,
          ⟨(some 15), .ld (some 6) (.t 14), none⟩,
          ⟨(some 16), .callV (.t 11) [(.t 15)], none⟩] (some [0, 1, 5, 7, 8, 16]))
        (.cond (.t 16)
          (.seq (.region [⟨(some 17), .mv (.t 5), none⟩,
            ⟨(some 4), .mv (.t 17), none⟩] (some [4]))
          .ret)
          .skip))))
      (.region [⟨(some 18), .bin .add (.t 8) (.c (.int .i64 1)), none⟩,
        ⟨(some 8), .mv (.t 18), none⟩] (some [0, 1, 7, 8]))))))))
  (.seq (.region [⟨(some 4), .mv (.c (.int .i64 (-1))), none⟩] (some [4]))
  .ret))), [.t 4]⟩
theorem slices_IndexFunc_Part_Part_ok : cFn Tryz.prog (kps [[0, 1], [0, 1, 7, 8], [0, 1, 7, 8, 9], [0, 1, 5, 7, 8], [0, 1, 5, 7, 8, 16], [4], [0, 1, 7, 8], [4]]) [] 120 = some slices_IndexFunc_Part_Part_c := by kernel_rfl

abbrev slices_stableCmpFunc_Pair : Nat := 136
def slices_stableCmpFunc_Pair_c : MFn :=
  ⟨63, (.seq (.region [⟨(some 6), .mv (.c (.int .i64 20)), none⟩] (some [0, 1, 2, 6]))
  (.seq (.region [⟨(some 10), .mv (.t 6), none⟩,
    ⟨(some 7), .mv (.c (.int .i64 0)), none⟩,
    ⟨(some 8), .mv (.t 10), none⟩] (some [0, 1, 2, 6, 7, 8]))
  (.seq (.block 0 (.loop (.seq (.seq (.region [⟨(some 11), .mv (.t 8), none⟩,
        ⟨(some 12), .mv (.t 1), none⟩,
        ⟨(some 13), .bin .leq (.t 11) (.t 12), none⟩] (some [0, 1, 2, 6, 7, 8, 13]))
      (.cond (.t 13)
        .skip
        (.exit 0)))
      (.block 1 (.seq (.region [⟨(some 14), .mv (.t 0), none⟩,
          ⟨(some 15), .mv (.t 7), none⟩,
          ⟨(some 16), .mv (.t 8), none⟩,
          ⟨(some 17), .mv (.t 2), none⟩,
          ⟨(some 18), .call 148 [(.t 14), (.t 15), (.t 16), (.t 17)], none⟩] (some [0, 1, 2, 6, 8]))
        (.seq (.region [⟨(some 19), .mv (.t 8), none⟩,
          ⟨(some 7), .mv (.t 19), none⟩] (some [0, 1, 2, 6, 7, 8]))
        (.region [⟨(some 20), .mv (.t 8), none⟩,
          ⟨(some 21), .mv (.t 6), none⟩,
          ⟨(some 22), .bin .add (.t 20) (.t 21), none⟩,
          ⟨(some 8), .mv (.t 22), none⟩] (some [0, 1, 2, 6, 7, 8]))))))))
  (.seq (.region [⟨(some 23), .mv (.t 0), none⟩,
    ⟨(some 24), .mv (.t 7), none⟩,
    ⟨(some 25), .mv (.t 1), none⟩,
    ⟨(some 26), .mv (.t 2), none⟩,
    ⟨(some 27), .call 148 [(.t 23), (.t 24), (.t 25), (.t 26)], none⟩] (some [0, 1, 2, 6]))
  (.block 2 (.loop (.seq (.seq (.region [⟨(some 28), .mv (.t 6), none⟩,
        ⟨(some 29), .mv (.t 1), none⟩,
        ⟨(some 30), .bin .lss (.t 28) (.t 29), none⟩] (some [0, 1, 2, 6, 30]))
      (.cond (.t 30)
        .skip
        (.exit 2)))
      (.block 3 (.seq (.region [⟨(some 31), .mv (.t 6), none⟩,
          ⟨(some 32), .bin .mul (.c (.int .i64 2)) (.t 31), none⟩,
          ⟨(some 7), .mv (.c (.int .i64 0)), none⟩,
          ⟨(some 8), .mv (.t 32), none⟩] (some [0, 1, 2, 6, 7, 8]))
        (.seq (.block 4 (.loop (.seq (.seq (.region [⟨(some 33), .mv (.t 8), none⟩,
              ⟨(some 34), .mv (.t 1), none⟩,
              ⟨(some 35), .bin .leq (.t 33) (.t 34), none⟩] (some [0, 1, 2, 6, 7, 8, 35]))
            (.cond (.t 35)
              .skip
              (.exit 4)))
            (.block 5 (.seq (.region [⟨(some 36), .mv (.t 0), none⟩,
                ⟨(some 37), .mv (.t 7), none⟩,
                ⟨(some 38), .mv (.t 7), none⟩,
                ⟨(some 39), .mv (.t 6), none⟩,
                ⟨(some 40), .bin .add (.t 38) (.t 39), none⟩,
                ⟨(some 41), .mv (.t 8), none⟩,
                ⟨(some 42), .mv (.t 2), none⟩,
                ⟨(some 43), .call 149 [(.t 36), (.t 37), (.t 40), (.t 41), (.t 42)], none⟩] (some [0, 1, 2, 6, 8]))
              (.seq (.region [⟨(some 44), .mv (.t 8), none⟩,
                ⟨(some 7), .mv (.t 44), none⟩] (some [0, 1, 2, 6, 7, 8]))
              (.region [⟨(some 45), .mv (.t 8), none⟩,
                ⟨(some 46), .mv (.t 6), none⟩,
                ⟨(some 47), .bin .mul (.c (.int .i64 2)) (.t 46), none⟩,
                ⟨(some 48), .bin .add (.t 45) (.t 47), none⟩,
                ⟨(some 8), .mv (.t 48), none⟩] (some [0, 1, 2, 6, 7, 8]))))))))
        (.seq (.seq (.region [⟨(some 49), .mv (.t 7), none⟩,
          ⟨(some 50), .mv (.t 6), none⟩,
          ⟨(some 51), .bin .add (.t 49) (.t 50), none⟩,
          ⟨(some 9), .mv (.t 51), none⟩] (some [0, 1, 2, 6, 7, 9]))
        (.seq (.region [⟨(some 52), .mv (.t 9), none⟩,
          ⟨(some 53), .mv (.t 1), none⟩,
          ⟨(some 54), .bin .lss (.t 52) (.t 53), none⟩] (some [0, 1, 2, 6, 7, 9, 54]))
        (.cond (.t 54)
          (.region [⟨(some 55), .mv (.t 0), none⟩,
            ⟨(some 56), .mv (.t 7), none⟩,
            ⟨(some 57), .mv (.t 9), none⟩,
            ⟨(some 58), .mv (.t 1), none⟩,
            ⟨(some 59), .mv (.t 2), none⟩,
            ⟨(some 60), .call 149 [(.t 55), (.t 56), (.t 57), (.t 58), (.t 59)], none⟩] (some [0, 1, 2, 6]))
          .skip)))
        (.region [⟨(some 61), .mv (.t 6), none⟩,
          ⟨(some 62), .bin .mul (.t 61) (.c (.int .i64 2)), none⟩,
          ⟨(some 6), .mv (.t 62), none⟩] (some [0, 1, 2, 6]))))))))))))), []⟩
theorem slices_stableCmpFunc_Pair_ok : cFn Tryz.prog (kps [[0, 1, 2, 6], [0, 1, 2, 6, 7, 8], [0, 1, 2, 6, 7, 8, 13], [0, 1, 2, 6, 8], [0, 1, 2, 6, 7, 8], [0, 1, 2, 6, 7, 8], [0, 1, 2, 6], [0, 1, 2, 6, 30], [0, 1, 2, 6, 7, 8], [0, 1, 2, 6, 7, 8, 35], [0, 1, 2, 6, 8], [0, 1, 2, 6, 7, 8], [0, 1, 2, 6, 7, 8], [0, 1, 2, 6, 7, 9], [0, 1, 2, 6, 7, 9, 54], [0, 1, 2, 6], [0, 1, 2, 6]]) [] 136 = some slices_stableCmpFunc_Pair_c := by kernel_rfl

abbrev slices_insertionSortCmpFunc_Pair : Nat := 148
def slices_insertionSortCmpFunc_Pair_c : MFn :=
  ⟨53, (.seq (.region [⟨(some 10), .mv (.t 1), none⟩,
    ⟨(some 11), .bin .add (.t 10) (.c (.int .i64 1)), none⟩,
    ⟨(some 8), .mv (.t 11), none⟩] (some [0, 1, 2, 3, 8]))
  (.block 0 (.loop (.seq (.seq (.region [⟨(some 12), .mv (.t 8), none⟩,
        ⟨(some 13), .mv (.t 2), none⟩,
        ⟨(some 14), .bin .lss (.t 12) (.t 13), none⟩] (some [0, 1, 2, 3, 8, 14]))
      (.cond (.t 14)
        .skip
        (.exit 0)))
      (.seq (.block 1 (.seq (.region [⟨(some 17), .mv (.t 8), none⟩,
          ⟨(some 9), .mv (.t 17), none⟩] (some [0, 1, 2, 3, 8, 9]))
        (.block 2 (.loop (.seq (.seq (.region [⟨(some 18), .mv (.t 9), none⟩,
              ⟨(some 19), .mv (.t 1), none⟩,
              ⟨(some 20), .bin .gtr (.t 18) (.t 19), none⟩,
              ⟨(some 21), .mv (.t 20), none⟩,
              ⟨(some 22), .mv (.t 3), (some (21, true))⟩,
              ⟨(some 23), .mv (.t 0), (some (21, true))⟩,
              ⟨(some 24), .mv (.t 9), (some (21, true))⟩,
              ⟨(some 25), .ixA 5 (.t 23) (.t 24), (some (21, true))⟩,
              ⟨(some 26), .ld (some 5) (.t 25), (some (21, true))⟩,
              ⟨(some 27), .mv (.t 0), (some (21, true))⟩,
              ⟨(some 28), .mv (.t 9), (some (21, true))⟩,
              ⟨(some 29), .bin .sub (.t 28) (.c (.int .i64 1)), (some (21, true))⟩,
              ⟨(some 30), .ixA 5 (.t 27) (.t 29), (some (21, true))⟩,
              ⟨(some 31), .ld (some 5) (.t 30), (some (21, true))⟩,
              ⟨(some 32), .callVF (.t 22) [(.t 26), (.t 31)], (some (21, true))⟩,
              ⟨(some 33), .bin .lss (.t 32) (.c (.int .i64 0)), (some (21, true))⟩,
              ⟨(some 34), .pick (.t 21) (.t 33) (.c (.bool false)), none⟩] (some [0, 1, 2, 3, 8, 9, 34]))
            (.cond (.t 34)
              .skip
              (.exit 2)))
            (.seq (.block 3 (.region [⟨(some 37), .mv (.t 0), none⟩,
                ⟨(some 38), .mv (.t 9), none⟩,
                ⟨(some 39), .mv (.t 0), none⟩,
                ⟨(some 40), .mv (.t 9), none⟩,
                ⟨(some 41), .bin .sub (.t 40) (.c (.int .i64 1)), none⟩,
                ⟨(some 42), .mv (.t 0), none⟩,
                ⟨(some 43), .mv (.t 9), none⟩,
                ⟨(some 44), .bin .sub (.t 43) (.c (.int .i64 1)), none⟩,
                ⟨(some 45), .ixA 5 (.t 42) (.t 44), none⟩,
                ⟨(some 46), .ld (some 5) (.t 45), none⟩,
                ⟨(some 47), .mv (.t 0), none⟩,
                ⟨(some 48), .mv (.t 9), none⟩,
                ⟨(some 49), .ixA 5 (.t 47) (.t 48), none⟩,
                ⟨(some 50), .ld (some 5) (.t 49), none⟩,
                ⟨(some 51), .ixA 5 (.t 37) (.t 38), none⟩,
                ⟨none, .st 5 (.t 51) (.t 46), none⟩,
                ⟨(some 52), .ixA 5 (.t 39) (.t 41), none⟩,
                ⟨none, .st 5 (.t 52) (.t 50), none⟩] (some [0, 1, 2, 3, 8, 9])))
            (.region [⟨(some 35), .mv (.t 9), none⟩,
              ⟨(some 36), .bin .sub (.t 35) (.c (.int .i64 1)), none⟩,
              ⟨(some 9), .mv (.t 36), none⟩] (some [0, 1, 2, 3, 8, 9]))))))))
      (.region [⟨(some 15), .mv (.t 8), none⟩,
        ⟨(some 16), .bin .add (.t 15) (.c (.int .i64 1)), none⟩,
        ⟨(some 8), .mv (.t 16), none⟩] (some [0, 1, 2, 3, 8]))))))), []⟩
theorem slices_insertionSortCmpFunc_Pair_ok : cFn Tryz.prog (kps [[0, 1, 2, 3, 8], [0, 1, 2, 3, 8, 14], [0, 1, 2, 3, 8], [0, 1, 2, 3, 8, 9], [0, 1, 2, 3, 8, 9, 34], [0, 1, 2, 3, 8, 9], [0, 1, 2, 3, 8, 9]]) [] 148 = some slices_insertionSortCmpFunc_Pair_c := by kernel_rfl

abbrev slices_symMergeCmpFunc_Pair : Nat := 149
def slices_symMergeCmpFunc_Pair_c : MFn :=
  ⟨220, (.seq (.seq (.region [⟨(some 25), .mv (.t 2), none⟩,
    ⟨(some 26), .mv (.t 1), none⟩,
    ⟨(some 27), .bin .sub (.t 25) (.t 26), none⟩,
    ⟨(some 28), .bin .eql (.t 27) (.c (.int .i64 1)), none⟩] (some [0, 1, 2, 3, 4, 28]))
  (.cond (.t 28)
    (.seq (.region [⟨(some 29), .mv (.t 2), none⟩,
      ⟨(some 10), .mv (.t 29), none⟩] (some [0, 1, 3, 4, 10]))
    (.seq (.region [⟨(some 30), .mv (.t 3), none⟩,
      ⟨(some 11), .mv (.t 30), none⟩] (some [0, 1, 4, 10, 11]))
    (.seq (.block 0 (.loop (.seq (.seq (.region [⟨(some 31), .mv (.t 10), none⟩,
          ⟨(some 32), .mv (.t 11), none⟩,
          ⟨(some 33), .bin .lss (.t 31) (.t 32), none⟩] (some [0, 1, 4, 10, 11, 33]))
        (.cond (.t 33)
          .skip
          (.exit 0)))
        (.block 1 (.seq (.region [⟨(some 34), .mv (.t 10), none⟩,
            ⟨(some 35), .mv (.t 11), none⟩,
            ⟨(some 36), .bin .add (.t 34) (.t 35), none⟩,
            ⟨(some 37), .cvt .u64 (.t 36), none⟩,
            ⟨(some 38), .bin .shr (.t 37) (.c (.int .u64 1)), none⟩,
            ⟨(some 39), .cvt .i64 (.t 38), none⟩,
            ⟨(some 12), .mv (.t 39), none⟩] (some [0, 1, 4, 10, 11, 12]))
          (.seq (.region [⟨(some 40), .mv (.t 4), none⟩,
            ⟨(some 41), .mv (.t 0), none⟩,
            ⟨(some 42), .mv (.t 12), none⟩,
            ⟨(some 43), .ixA 5 (.t 41) (.t 42), none⟩,
            ⟨(some 44), .ld (some 5) (.t 43), none⟩,
            ⟨(some 45), .mv (.t 0), none⟩,
            ⟨(some 46), .mv (.t 1), none⟩,
            ⟨(some 47), .ixA 5 (.t 45) (.t 46), none⟩,
            ⟨(some 48), .ld (some 5) (.t 47), none⟩,
            ⟨(some 49), .callVF (.t 40) [(.t 44), (.t 48)], none⟩,
            ⟨(some 50), .bin .lss (.t 49) (.c (.int .i64 0)), none⟩] (some [0, 1, 4, 10, 11, 12, 50]))
          (.cond (.t 50)
            (.region [⟨(some 51), .mv (.t 12), none⟩,
              ⟨(some 52), .bin .add (.t 51) (.c (.int .i64 1)), none⟩,
              ⟨(some 10), .mv (.t 52), none⟩] (some [0, 1, 4, 10, 11]))
            (.region [⟨(some 53), .mv (.t 12), none⟩,
              ⟨(some 11), .mv (.t 53), none⟩] (some [0, 1, 4, 10, 11])))))))))
    (.seq (.seq (.region [⟨(some 54), .mv (.t 1), none⟩,
      ⟨(some 13), .mv (.t 54), none⟩] (some [0, 10, 13]))
    (.block 2 (.loop (.seq (.seq (.region [⟨(some 55), .mv (.t 13), none⟩,
          ⟨(some 56), .mv (.t 10), none⟩,
          ⟨(some 57), .bin .sub (.t 56) (.c (.int .i64 1)), none⟩,
          ⟨(some 58), .bin .lss (.t 55) (.t 57), none⟩] (some [0, 10, 13, 58]))
        (.cond (.t 58)
          .skip
          (.exit 2)))
        (.seq (.block 3 (.region [⟨(some 61), .mv (.t 0), none⟩,
            ⟨(some 62), .mv (.t 13), none⟩,
            ⟨(some 63), .mv (.t 0), none⟩,
            ⟨(some 64), .mv (.t 13), none⟩,
            ⟨(some 65), .bin .add (.t 64) (.c (.int .i64 1)), none⟩,
            ⟨(some 66), .mv (.t 0), none⟩,
            ⟨(some 67), .mv (.t 13), none⟩,
            ⟨(some 68), .bin .add (.t 67) (.c (.int .i64 1)), none⟩,
            ⟨(some 69), .ixA 5 (.t 66) (.t 68), none⟩,
            ⟨(some 70), .ld (some 5) (.t 69), none⟩,
            ⟨(some 71), .mv (.t 0), none⟩,
            ⟨(some 72), .mv (.t 13), none⟩,
            ⟨(some 73), .ixA 5 (.t 71) (.t 72), none⟩,
            ⟨(some 74), .ld (some 5) (.t 73), none⟩,
            ⟨(some 75), .ixA 5 (.t 61) (.t 62), none⟩,
            ⟨none, .st 5 (.t 75) (.t 70), none⟩,
            ⟨(some 76), .ixA 5 (.t 63) (.t 65), none⟩,
            ⟨none, .st 5 (.t 76) (.t 74), none⟩] (some [0, 10, 13])))
        (.region [⟨(some 59), .mv (.t 13), none⟩,
          ⟨(some 60), .bin .add (.t 59) (.c (.int .i64 1)), none⟩,
          ⟨(some 13), .mv (.t 60), none⟩] (some [0, 10, 13])))))))
    .ret))))
    .skip))
  (.seq (.seq (.region [⟨(some 77), .mv (.t 3), none⟩,
    ⟨(some 78), .mv (.t 2), none⟩,
    ⟨(some 79), .bin .sub (.t 77) (.t 78), none⟩,
    ⟨(some 80), .bin .eql (.t 79) (.c (.int .i64 1)), none⟩] (some [0, 1, 2, 3, 4, 80]))
  (.cond (.t 80)
    (.seq (.region [⟨(some 81), .mv (.t 1), none⟩,
      ⟨(some 14), .mv (.t 81), none⟩] (some [0, 2, 4, 14]))
    (.seq (.region [⟨(some 82), .mv (.t 2), none⟩,
      ⟨(some 15), .mv (.t 82), none⟩] (some [0, 2, 4, 14, 15]))
    (.seq (.block 4 (.loop (.seq (.seq (.region [⟨(some 83), .mv (.t 14), none⟩,
          ⟨(some 84), .mv (.t 15), none⟩,
          ⟨(some 85), .bin .lss (.t 83) (.t 84), none⟩] (some [0, 2, 4, 14, 15, 85]))
        (.cond (.t 85)
          .skip
          (.exit 4)))
        (.block 5 (.seq (.region [⟨(some 86), .mv (.t 14), none⟩,
            ⟨(some 87), .mv (.t 15), none⟩,
            ⟨(some 88), .bin .add (.t 86) (.t 87), none⟩,
            ⟨(some 89), .cvt .u64 (.t 88), none⟩,
            ⟨(some 90), .bin .shr (.t 89) (.c (.int .u64 1)), none⟩,
            ⟨(some 91), .cvt .i64 (.t 90), none⟩,
            ⟨(some 16), .mv (.t 91), none⟩] (some [0, 2, 4, 14, 15, 16]))
          (.seq (.region [⟨(some 92), .mv (.t 4), none⟩,
            ⟨(some 93), .mv (.t 0), none⟩,
            ⟨(some 94), .mv (.t 2), none⟩,
            ⟨(some 95), .ixA 5 (.t 93) (.t 94), none⟩,
            ⟨(some 96), .ld (some 5) (.t 95), none⟩,
            ⟨(some 97), .mv (.t 0), none⟩,
            ⟨(some 98), .mv (.t 16), none⟩,
            ⟨(some 99), .ixA 5 (.t 97) (.t 98), none⟩,
            ⟨(some 100), .ld (some 5) (.t 99), none⟩,
            ⟨(some 101), .callVF (.t 92) [(.t 96), (.t 100)], none⟩,
            ⟨(some 102), .bin .lss (.t 101) (.c (.int .i64 0)), none⟩,
            ⟨(some 103), .un .not (.t 102), none⟩] (some [0, 2, 4, 14, 15, 16, 103]))
          (.cond (.t 103)
            (.region [⟨(some 104), .mv (.t 16), none⟩,
              ⟨(some 105), .bin .add (.t 104) (.c (.int .i64 1)), none⟩,
              ⟨(some 14), .mv (.t 105), none⟩] (some [0, 2, 4, 14, 15]))
            (.region [⟨(some 106), .mv (.t 16), none⟩,
              ⟨(some 15), .mv (.t 106), none⟩] (some [0, 2, 4, 14, 15])))))))))
    (.seq (.seq (.region [⟨(some 107), .mv (.t 2), none⟩,
      ⟨(some 17), .mv (.t 107), none⟩] (some [0, 14, 17]))
    (.block 6 (.loop (.seq (.seq (.region [⟨(some 108), .mv (.t 17), none⟩,
          ⟨(some 109), .mv (.t 14), none⟩,
          ⟨(some 110), .bin .gtr (.t 108) (.t 109), none⟩] (some [0, 14, 17, 110]))
        (.cond (.t 110)
          .skip
          (.exit 6)))
        (.seq (.block 7 (.region [⟨(some 113), .mv (.t 0), none⟩,
            ⟨(some 114), .mv (.t 17), none⟩,
            ⟨(some 115), .mv (.t 0), none⟩,
            ⟨(some 116), .mv (.t 17), none⟩,
            ⟨(some 117), .bin .sub (.t 116) (.c (.int .i64 1)), none⟩,
            ⟨(some 118), .mv (.t 0), none⟩,
            ⟨(some 119), .mv (.t 17), none⟩,
            ⟨(some 120), .bin .sub (.t 119) (.c (.int .i64 1)), none⟩,
            ⟨(some 121), .ixA 5 (.t 118) (.t 120), none⟩,
            ⟨(some 122), .ld (some 5) (.t 121), none⟩,
            ⟨(some 123), .mv (.t 0), none⟩,
            ⟨(some 124), .mv (.t 17), none⟩,
            ⟨(some 125), .ixA 5 (.t 123) (.t 124), none⟩,
            ⟨(some 126), .ld (some 5) (.t 125), none⟩,
            ⟨(some 127), .ixA 5 (.t 113) (.t 114), none⟩,
            ⟨none, .st 5 (.t 127) (.t 122), none⟩,
            ⟨(some 128), .ixA 5 (.t 115) (.t 117), none⟩,
            ⟨none, .st 5 (.t 128) (.t 126), none⟩] (some [0, 14, 17])))
        (.region [⟨(some 111), .mv (.t 17), none⟩,
          ⟨(some 112), .bin .sub (.t 111) (.c (.int .i64 1)), none⟩,
          ⟨(some 17), .mv (.t 112), none⟩] (some [0, 14, 17])))))))
    .ret))))
    .skip))
  (.seq (.region [⟨(some 129), .mv (.t 1), none⟩,
    ⟨(some 130), .mv (.t 3), none⟩,
    ⟨(some 131), .bin .add (.t 129) (.t 130), none⟩,
    ⟨(some 132), .cvt .u64 (.t 131), none⟩,
    ⟨(some 133), .bin .shr (.t 132) (.c (.int .u64 1)), none⟩,
    ⟨(some 134), .cvt .i64 (.t 133), none⟩,
    ⟨(some 18), .mv (.t 134), none⟩] (some [0, 1, 2, 3, 4, 18]))
  (.seq (.region [⟨(some 135), .mv (.t 18), none⟩,
    ⟨(some 136), .mv (.t 2), none⟩,
    ⟨(some 137), .bin .add (.t 135) (.t 136), none⟩,
    ⟨(some 19), .mv (.t 137), none⟩] (some [0, 1, 2, 3, 4, 18, 19]))
  (.seq (.region [⟨(some 20), .mv (.c (.int .i64 0)), none⟩,
    ⟨(some 21), .mv (.c (.int .i64 0)), none⟩] (some [0, 1, 2, 3, 4, 18, 19]))
  (.seq (.seq (.region [⟨(some 138), .mv (.t 2), none⟩,
    ⟨(some 139), .mv (.t 18), none⟩,
    ⟨(some 140), .bin .gtr (.t 138) (.t 139), none⟩] (some [0, 1, 2, 3, 4, 18, 19, 140]))
  (.cond (.t 140)
    (.seq (.region [⟨(some 141), .mv (.t 19), none⟩,
      ⟨(some 142), .mv (.t 3), none⟩,
      ⟨(some 143), .bin .sub (.t 141) (.t 142), none⟩,
      ⟨(some 20), .mv (.t 143), none⟩] (some [0, 1, 2, 3, 4, 18, 19, 20]))
    (.region [⟨(some 144), .mv (.t 18), none⟩,
      ⟨(some 21), .mv (.t 144), none⟩] (some [0, 1, 2, 3, 4, 18, 19, 20, 21])))
    (.seq (.region [⟨(some 145), .mv (.t 1), none⟩,
      ⟨(some 20), .mv (.t 145), none⟩] (some [0, 1, 2, 3, 4, 18, 19, 20]))
    (.region [⟨(some 146), .mv (.t 2), none⟩,
      ⟨(some 21), .mv (.t 146), none⟩] (some [0, 1, 2, 3, 4, 18, 19, 20, 21])))))
  (.seq (.region [⟨(some 147), .mv (.t 19), none⟩,
    ⟨(some 148), .bin .sub (.t 147) (.c (.int .i64 1)), none⟩,
    ⟨(some 22), .mv (.t 148), none⟩] (some [0, 1, 2, 3, 4, 18, 19, 20, 21, 22]))
  (.seq (.block 8 (.loop (.seq (.seq (.region [⟨(some 149), .mv (.t 20), none⟩,
        ⟨(some 150), .mv (.t 21), none⟩,
        ⟨(some 151), .bin .lss (.t 149) (.t 150), none⟩] (some [0, 1, 2, 3, 4, 18, 19, 20, 21, 22, 151]))
      (.cond (.t 151)
        .skip
        (.exit 8)))
      (.block 9 (.seq (.region [⟨(some 152), .mv (.t 20), none⟩,
          ⟨(some 153), .mv (.t 21), none⟩,
          ⟨(some 154), .bin .add (.t 152) (.t 153), none⟩,
          ⟨(some 155), .cvt .u64 (.t 154), none⟩,
          ⟨(some 156), .bin .shr (.t 155) (.c (.int .u64 1)), none⟩,
          ⟨(some 157), .cvt .i64 (.t 156), none⟩,
          ⟨(some 23), .mv (.t 157), none⟩] (some [0, 1, 2, 3, 4, 18, 19, 20, 21, 22, 23]))
        (.seq (.region [⟨(some 158), .mv (.t 4), none⟩,
          ⟨(some 159), .mv (.t 0), none⟩,
          ⟨(some 160), .mv (.t 22), none⟩,
          ⟨(some 161), .mv (.t 23), none⟩,
          ⟨(some 162), .bin .sub (.t 160) (.t 161), none⟩,
          ⟨(some 163), .ixA 5 (.t 159) (.t 162), none⟩,
          ⟨(some 164), .ld (some 5) (.t 163), none⟩,
          ⟨(some 165), .mv (.t 0), none⟩,
          ⟨(some 166), .mv (.t 23), none⟩,
          ⟨(some 167), .ixA 5 (.t 165) (.t 166), none⟩,
          ⟨(some 168), .ld (some 5) (.t 167), none⟩,
          ⟨(some 169), .callVF (.t 158) [(.t 164), (.t 168)], none⟩,
          ⟨(some 170), .bin .lss (.t 169) (.c (.int .i64 0)), none⟩,
          ⟨(some 171), .un .not (.t 170), none⟩] (some [0, 1, 2, 3, 4, 18, 19, 20, 21, 22, 23, 171]))
        (.cond (.t 171)
          (.region [⟨(some 172), .mv (.t 23), none⟩,
            ⟨(some 173), .bin .add (.t 172) (.c (.int .i64 1)), none⟩,
            ⟨(some 20), .mv (.t 173), none⟩] (some [0, 1, 2, 3, 4, 18, 19, 20, 21, 22]))
          (.region [⟨(some 174), .mv (.t 23), none⟩,
            ⟨(some 21), .mv (.t 174), none⟩] (some [0, 1, 2, 3, 4, 18, 19, 20, 21, 22])))))))))
  (.seq (.region [⟨(some 175), .mv (.t 19), none⟩,
    ⟨(some 176), .mv (.t 20), none⟩,
    ⟨(some 177), .bin .sub (.t 175) (.t 176), none⟩,
    ⟨(some 24), .mv (.t 177), none⟩] (some [0, 1, 2, 3, 4, 18, 20, 24]))
  (.seq (.seq (.region [⟨(some 178), .mv (.t 20), none⟩,
    ⟨(some 179), .mv (.t 2), none⟩,
    ⟨(some 180), .bin .lss (.t 178) (.t 179), none⟩,
    ⟨(some 181), .mv (.t 180), none⟩,
    ⟨(some 182), .mv (.t 2), (some (181, true))⟩,
    ⟨(some 183), .mv (.t 24), (some (181, true))⟩,
    ⟨(some 184), .bin .lss (.t 182) (.t 183), (some (181, true))⟩,
    ⟨(some 185), .pick (.t 181) (.t 184) (.c (.bool false)), none⟩] (some [0, 1, 2, 3, 4, 18, 20, 24, 185]))
  (.cond (.t 185)
    (.region [⟨(some 186), .mv (.t 0), none⟩,
      ⟨(some 187), .mv (.t 20), none⟩,
      ⟨(some 188), .mv (.t 2), none⟩,
      ⟨(some 189), .mv (.t 24), none⟩,
      ⟨(some 190), .mv (.t 4), none⟩,
      ⟨(some 191), .call 153 [(.t 186), (.t 187), (.t 188), (.t 189), (.t 190)], none⟩] (some [0, 1, 3, 4, 18, 20, 24]))
    .skip))
  (.seq (.seq (.region [⟨(some 192), .mv (.t 1), none⟩,
    ⟨(some 193), .mv (.t 20), none⟩,
    ⟨(some 194), .bin .lss (.t 192) (.t 193), none⟩,
    ⟨(some 195), .mv (.t 194), none⟩,
    ⟨(some 196), .mv (.t 20), (some (195, true))⟩,
    ⟨(some 197), .mv (.t 18), (some (195, true))⟩,
    ⟨(some 198), .bin .lss (.t 196) (.t 197), (some (195, true))⟩,
    ⟨(some 199), .pick (.t 195) (.t 198) (.c (.bool false)), none⟩] (some [0, 1, 3, 4, 18, 20, 24, 199]))
  (.cond (.t 199)
    (.region [⟨(some 200), .mv (.t 0), none⟩,
      ⟨(some 201), .mv (.t 1), none⟩,
      ⟨(some 202), .mv (.t 20), none⟩,
      ⟨(some 203), .mv (.t 18), none⟩,
      ⟨(some 204), .mv (.t 4), none⟩,
      ⟨(some 205), .call 149 [(.t 200), (.t 201), (.t 202), (.t 203), (.t 204)], none⟩] (some [0, 3, 4, 18, 24]))
    .skip))
  (.seq (.region [⟨(some 206), .mv (.t 18), none⟩,
    ⟨(some 207), .mv (.t 24), none⟩,
    ⟨(some 208), .bin .lss (.t 206) (.t 207), none⟩,
    ⟨(some 209), .mv (.t 208), none⟩,
    ⟨(some 210), .mv (.t 24), (some (209, true))⟩,
    ⟨(some 211), .mv (.t 3), (some (209, true))⟩,
    ⟨(some 212), .bin .lss (.t 210) (.t 211), (some (209, true))⟩,
    ⟨(some 213), .pick (.t 209) (.t 212) (.c (.bool false)), none⟩] (some [0, 3, 4, 18, 24, 213]))
  (.cond (.t 213)
    (.region [⟨(some 214), .mv (.t 0), none⟩,
      ⟨(some 215), .mv (.t 18), none⟩,
      ⟨(some 216), .mv (.t 24), none⟩,
      ⟨(some 217), .mv (.t 3), none⟩,
      ⟨(some 218), .mv (.t 4), none⟩,
      ⟨(some 219), .call 149 [(.t 214), (.t 215), (.t 216), (.t 217), (.t 218)], none⟩] (some []))
    .skip))))))))))))), []⟩
theorem slices_symMergeCmpFunc_Pair_ok : cFn Tryz.prog (kps [[0, 1, 2, 3, 4, 28], [0, 1, 3, 4, 10], [0, 1, 4, 10, 11], [0, 1, 4, 10, 11, 33], [0, 1, 4, 10, 11, 12], [0, 1, 4, 10, 11, 12, 50], [0, 1, 4, 10, 11], [0, 1, 4, 10, 11], [0, 10, 13], [0, 10, 13, 58], [0, 10, 13], [0, 10, 13], [0, 1, 2, 3, 4, 80], [0, 2, 4, 14], [0, 2, 4, 14, 15], [0, 2, 4, 14, 15, 85], [0, 2, 4, 14, 15, 16], [0, 2, 4, 14, 15, 16, 103], [0, 2, 4, 14, 15], [0, 2, 4, 14, 15], [0, 14, 17], [0, 14, 17, 110], [0, 14, 17], [0, 14, 17], [0, 1, 2, 3, 4, 18], [0, 1, 2, 3, 4, 18, 19], [0, 1, 2, 3, 4, 18, 19], [0, 1, 2, 3, 4, 18, 19, 140], [0, 1, 2, 3, 4, 18, 19, 20], [0, 1, 2, 3, 4, 18, 19, 20, 21], [0, 1, 2, 3, 4, 18, 19, 20], [0, 1, 2, 3, 4, 18, 19, 20, 21], [0, 1, 2, 3, 4, 18, 19, 20, 21, 22], [0, 1, 2, 3, 4, 18, 19, 20, 21, 22, 151], [0, 1, 2, 3, 4, 18, 19, 20, 21, 22, 23], [0, 1, 2, 3, 4, 18, 19, 20, 21, 22, 23, 171], [0, 1, 2, 3, 4, 18, 19, 20, 21, 22], [0, 1, 2, 3, 4, 18, 19, 20, 21, 22], [0, 1, 2, 3, 4, 18, 20, 24], [0, 1, 2, 3, 4, 18, 20, 24, 185], [0, 1, 3, 4, 18, 20, 24], [0, 1, 3, 4, 18, 20, 24, 199], [0, 3, 4, 18, 24], [0, 3, 4, 18, 24, 213], []]) [] 149 = some slices_symMergeCmpFunc_Pair_c := by kernel_rfl

abbrev slices_rotateCmpFunc_Pair : Nat := 153
def slices_rotateCmpFunc_Pair_c : MFn :=
  ⟨58, (.seq (.region [⟨(some 12), .mv (.t 2), none⟩,
    ⟨(some 13), .mv (.t 1), none⟩,
    ⟨(some 14), .bin .sub (.t 12) (.t 13), none⟩,
    ⟨(some 10), .mv (.t 14), none⟩] (some [0, 2, 3, 4, 10]))
  (.seq (.region [⟨(some 15), .mv (.t 3), none⟩,
    ⟨(some 16), .mv (.t 2), none⟩,
    ⟨(some 17), .bin .sub (.t 15) (.t 16), none⟩,
    ⟨(some 11), .mv (.t 17), none⟩] (some [0, 2, 4, 10, 11]))
  (.seq (.block 0 (.loop (.seq (.seq (.region [⟨(some 18), .mv (.t 10), none⟩,
        ⟨(some 19), .mv (.t 11), none⟩,
        ⟨(some 20), .bin .neq (.t 18) (.t 19), none⟩] (some [0, 2, 4, 10, 11, 20]))
      (.cond (.t 20)
        .skip
        (.exit 0)))
      (.block 1 (.seq (.region [⟨(some 21), .mv (.t 10), none⟩,
          ⟨(some 22), .mv (.t 11), none⟩,
          ⟨(some 23), .bin .gtr (.t 21) (.t 22), none⟩] (some [0, 2, 4, 10, 11, 23]))
        (.cond (.t 23)
          (.seq (.region [⟨(some 24), .mv (.t 0), none⟩,
            ⟨(some 25), .mv (.t 2), none⟩,
            ⟨(some 26), .mv (.t 10), none⟩,
            ⟨(some 27), .bin .sub (.t 25) (.t 26), none⟩,
            ⟨(some 28), .mv (.t 2), none⟩,
            ⟨(some 29), .mv (.t 11), none⟩,
            ⟨(some 30), .mv (.t 4), none⟩,
            ⟨(some 31), .call 154 [(.t 24), (.t 27), (.t 28), (.t 29), (.t 30)], none⟩] (some [0, 2, 4, 10, 11]))
          (.region [⟨(some 32), .mv (.t 10), none⟩,
            ⟨(some 33), .mv (.t 11), none⟩,
            ⟨(some 34), .bin .sub (.t 32) (.t 33), none⟩,
            ⟨(some 10), .mv (.t 34), none⟩] (some [0, 2, 4, 10, 11])))
          (.seq (.region [⟨(some 35), .mv (.t 0), none⟩,
            ⟨(some 36), .mv (.t 2), none⟩,
            ⟨(some 37), .mv (.t 10), none⟩,
            ⟨(some 38), .bin .sub (.t 36) (.t 37), none⟩,
            ⟨(some 39), .mv (.t 2), none⟩,
            ⟨(some 40), .mv (.t 11), none⟩,
            ⟨(some 41), .bin .add (.t 39) (.t 40), none⟩,
            ⟨(some 42), .mv (.t 10), none⟩,
            ⟨(some 43), .bin .sub (.t 41) (.t 42), none⟩,
            ⟨(some 44), .mv (.t 10), none⟩,
            ⟨(some 45), .mv (.t 4), none⟩,
            ⟨(some 46), .call 154 [(.t 35), (.t 38), (.t 43), (.t 44), (.t 45)], none⟩] (some [0, 2, 4, 10, 11]))
          (.region [⟨(some 47), .mv (.t 11), none⟩,
            ⟨(some 48), .mv (.t 10), none⟩,
            ⟨(some 49), .bin .sub (.t 47) (.t 48), none⟩,
            ⟨(some 11), .mv (.t 49), none⟩] (some [0, 2, 4, 10, 11])))))))))
  (.region [⟨(some 50), .mv (.t 0), none⟩,
    ⟨(some 51), .mv (.t 2), none⟩,
    ⟨(some 52), .mv (.t 10), none⟩,
    ⟨(some 53), .bin .sub (.t 51) (.t 52), none⟩,
    ⟨(some 54), .mv (.t 2), none⟩,
    ⟨(some 55), .mv (.t 10), none⟩,
    ⟨(some 56), .mv (.t 4), none⟩,
    ⟨(some 57), .call 154 [(.t 50), (.t 53), (.t 54), (.t 55), (.t 56)], none⟩] (some []))))), []⟩
theorem slices_rotateCmpFunc_Pair_ok : cFn Tryz.prog (kps [[0, 2, 3, 4, 10], [0, 2, 4, 10, 11], [0, 2, 4, 10, 11, 20], [0, 2, 4, 10, 11, 23], [0, 2, 4, 10, 11], [0, 2, 4, 10, 11], [0, 2, 4, 10, 11], [0, 2, 4, 10, 11], []]) [] 153 = some slices_rotateCmpFunc_Pair_c := by kernel_rfl

abbrev slices_swapRangeCmpFunc_Pair : Nat := 154
def slices_swapRangeCmpFunc_Pair_c : MFn :=
  ⟨38, (.seq (.region [⟨(some 10), .mv (.c (.int .i64 0)), none⟩] (some [0, 1, 2, 3, 10]))
  (.block 0 (.loop (.seq (.seq (.region [⟨(some 11), .mv (.t 10), none⟩,
        ⟨(some 12), .mv (.t 3), none⟩,
        ⟨(some 13), .bin .lss (.t 11) (.t 12), none⟩] (some [0, 1, 2, 3, 10, 13]))
      (.cond (.t 13)
        .skip
        (.exit 0)))
      (.seq (.block 1 (.region [⟨(some 16), .mv (.t 0), none⟩,
          ⟨(some 17), .mv (.t 1), none⟩,
          ⟨(some 18), .mv (.t 10), none⟩,
          ⟨(some 19), .bin .add (.t 17) (.t 18), none⟩,
          ⟨(some 20), .mv (.t 0), none⟩,
          ⟨(some 21), .mv (.t 2), none⟩,
          ⟨(some 22), .mv (.t 10), none⟩,
          ⟨(some 23), .bin .add (.t 21) (.t 22), none⟩,
          ⟨(some 24), .mv (.t 0), none⟩,
          ⟨(some 25), .mv (.t 2), none⟩,
          ⟨(some 26), .mv (.t 10), none⟩,
          ⟨(some 27), .bin .add (.t 25) (.t 26), none⟩,
          ⟨(some 28), .ixA 5 (.t 24) (.t 27), none⟩,
          ⟨(some 29), .ld (some 5) (.t 28), none⟩,
          ⟨(some 30), .mv (.t 0), none⟩,
          ⟨(some 31), .mv (.t 1), none⟩,
          ⟨(some 32), .mv (.t 10), none⟩,
          ⟨(some 33), .bin .add (.t 31) (.t 32), none⟩,
          ⟨(some 34), .ixA 5 (.t 30) (.t 33), none⟩,
          ⟨(some 35), .ld (some 5) (.t 34), none⟩,
          ⟨(some 36), .ixA 5 (.t 16) (.t 19), none⟩,
          ⟨none, .st 5 (.t 36) (.t 29), none⟩,
          ⟨(some 37), .ixA 5 (.t 20) (.t 23), none⟩,
          ⟨none, .st 5 (.t 37) (.t 35), none⟩] (some [0, 1, 2, 3, 10])))
      (.region [⟨(some 14), .mv (.t 10), none⟩,
        ⟨(some 15), .bin .add (.t 14) (.c (.int .i64 1)), none⟩,
        ⟨(some 10), .mv (.t 15), none⟩] (some [0, 1, 2, 3, 10]))))))), []⟩
theorem slices_swapRangeCmpFunc_Pair_ok : cFn Tryz.prog (kps [[0, 1, 2, 3, 10], [0, 1, 2, 3, 10, 13], [0, 1, 2, 3, 10], [0, 1, 2, 3, 10]]) [] 154 = some slices_swapRangeCmpFunc_Pair_c := by kernel_rfl

abbrev couple_on_room : Nat := 170
def couple_on_room_c : MFn :=
  ⟨7, (.seq (.region [⟨(some 2), .box (.t 0), none⟩,
    ⟨(some 4), .alloc [.bool false, .nils, .nils], none⟩,
    ⟨(some 5), .mv (.c (.bool false)), none⟩] (some [4]))
  (.seq (.region [⟨(some 6), .call 41 [], none⟩,
    ⟨none, .st 3 (.t 4) (.t 6), none⟩,
    ⟨(some 5), .mv (.c (.bool false)), none⟩] (some [4, 5]))
  .ret)), [.cell 4 (some 3), .t 5]⟩
theorem couple_on_room_ok : cFn Tryz.prog (kps [[4], [4, 5]]) [] 170 = some couple_on_room_c := by kernel_rfl

end Go.Proofs.YtnneehniendnfaaGreat.F
