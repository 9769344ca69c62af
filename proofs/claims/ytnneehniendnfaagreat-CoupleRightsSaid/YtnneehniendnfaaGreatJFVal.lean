import Derived.Test.YtnneehniendnfaaGreatGC
import Derived.Test.YtnneehniendnfaaGreatProg
import Derived.KernelRfl
/-! Functions of the program, as the engine reads them: written by gen.py out of the engine's own print; each is held against the translation by the kernel. -/
namespace Go.Proofs.YtnneehniendnfaaGreat.F
open Go Go.Proofs Go.Proofs.YtnneehniendnfaaGreat.E
abbrev value_Right : Nat := 42
def value_Right_c : MFn :=
  ⟨21, (.seq (.region [⟨(some 1), .box (.t 0), none⟩,
    ⟨(some 2), .mv (.c (.bool false)), none⟩] (some [1]))
  (.seq (.region [⟨(some 6), .ld (some 3) (.t 1), none⟩,
    ⟨(some 7), .call 89 [(.t 6), (.c (.int .i64 40))], none⟩,
    ⟨(some 5), .mv (.t 7), none⟩,
    ⟨(some 8), .ext (.t 5) 0, none⟩,
    ⟨(some 9), .ext (.t 5) 1, none⟩,
    ⟨(some 3), .alloc [.int .i64 0, .nils], none⟩,
    ⟨none, .st 2 (.t 3) (.t 8), none⟩,
    ⟨(some 4), .mv (.t 9), none⟩] (some [1, 3, 4]))
  (.seq (.region [⟨(some 10), .mv (.t 4), none⟩,
    ⟨(some 11), .mv (.t 10), none⟩,
    ⟨(some 12), .ld (some 2) (.t 3), (some (11, true))⟩,
    ⟨(some 13), .call 91 [(.t 12)], (some (11, true))⟩,
    ⟨(some 14), .call 90 [(.t 13)], (some (11, true))⟩,
    ⟨(some 15), .pick (.t 11) (.t 14) (.c (.bool false)), none⟩,
    ⟨(some 16), .mv (.t 15), none⟩,
    ⟨(some 17), .ld (some 3) (.t 1), (some (16, true))⟩,
    ⟨(some 18), .call 92 [(.t 17)], (some (16, true))⟩,
    ⟨(some 19), .bin .leq (.t 18) (.c (.int .i64 1000)), (some (16, true))⟩,
    ⟨(some 20), .pick (.t 16) (.t 19) (.c (.bool false)), none⟩,
    ⟨(some 2), .mv (.t 20), none⟩] (some [2]))
  .ret))), [.t 2]⟩
theorem value_Right_ok : cFn Tryz.prog (kps [[1], [1, 3, 4], [2]]) [] 42 = some value_Right_c := by kernel_rfl

abbrev value_Compare : Nat := 45
def value_Compare_c : MFn :=
  ⟨26, (.seq (.region [⟨(some 2), .box (.t 0), none⟩,
    ⟨(some 3), .box (.t 1), none⟩,
    ⟨(some 4), .mv (.c (.int .i64 0)), none⟩] (some [2, 3]))
  (.seq (.region [⟨(some 6), .fA 0 (.t 2), none⟩,
    ⟨(some 7), .ld none (.t 6), none⟩,
    ⟨(some 8), .fA 0 (.t 3), none⟩,
    ⟨(some 9), .ld none (.t 8), none⟩,
    ⟨(some 10), .call 97 [(.t 7), (.t 9)], none⟩,
    ⟨(some 5), .mv (.t 10), none⟩] (some [2, 3, 5]))
  (.seq (.seq (.region [⟨(some 11), .mv (.t 5), none⟩,
    ⟨(some 12), .bin .eql (.t 11) (.c (.int .i64 0)), none⟩] (some [2, 3, 5, 12]))
  (.cond (.t 12)
    (.region [⟨(some 13), .fA 1 (.t 2), none⟩,
      ⟨(some 14), .ld none (.t 13), none⟩,
      ⟨(some 15), .fA 1 (.t 3), none⟩,
      ⟨(some 16), .ld none (.t 15), none⟩,
      ⟨(some 17), .call 97 [(.t 14), (.t 16)], none⟩,
      ⟨(some 5), .mv (.t 17), none⟩] (some [2, 3, 5]))
    .skip))
  (.seq (.seq (.region [⟨(some 18), .mv (.t 5), none⟩,
    ⟨(some 19), .bin .eql (.t 18) (.c (.int .i64 0)), none⟩] (some [2, 3, 5, 19]))
  (.cond (.t 19)
    (.region [⟨(some 20), .fA 2 (.t 2), none⟩,
      ⟨(some 21), .ld none (.t 20), none⟩,
      ⟨(some 22), .fA 2 (.t 3), none⟩,
      ⟨(some 23), .ld none (.t 22), none⟩,
      ⟨(some 24), .call 98 [(.t 21), (.t 23), (.c (.clo 45 []))], none⟩,
      ⟨(some 5), .mv (.t 24), none⟩] (some [5]))
    .skip))
  (.seq (.region [⟨(some 25), .mv (.t 5), none⟩,
    ⟨(some 4), .mv (.t 25), none⟩] (some [4]))
  .ret))))), [.t 4]⟩
theorem value_Compare_ok : cFn Tryz.prog (kps [[2, 3], [2, 3, 5], [2, 3, 5, 12], [2, 3, 5], [2, 3, 5, 19], [5], [4]]) [] 45 = some value_Compare_c := by kernel_rfl

abbrev ref03_Right : Nat := 49
def ref03_Right_c : MFn :=
  ⟨14, (.seq (.region [⟨(some 1), .box (.t 0), none⟩,
    ⟨(some 2), .mv (.c (.bool false)), none⟩] (some [1]))
  (.seq (.seq (.region [⟨(some 5), .ld (some 3) (.t 1), none⟩,
    ⟨(some 6), .call 103 [(.t 5)], none⟩,
    ⟨(some 7), .bin .gtr (.t 6) (.c (.int .i64 1000)), none⟩] (some [1, 7]))
  (.cond (.t 7)
    (.seq (.region [⟨(some 2), .mv (.c (.bool false)), none⟩] (some [2]))
    .ret)
    .skip))
  (.seq (.region [⟨(some 9), .ld (some 3) (.t 1), none⟩,
    ⟨(some 10), .call 104 [(.t 9), (.c (.int .i64 1))], none⟩,
    ⟨(some 8), .mv (.t 10), none⟩,
    ⟨(some 11), .ext (.t 8) 0, none⟩,
    ⟨(some 12), .ext (.t 8) 1, none⟩,
    ⟨(some 3), .alloc [.int .i64 0, .nils], none⟩,
    ⟨none, .st 2 (.t 3) (.t 11), none⟩,
    ⟨(some 4), .mv (.t 12), none⟩] (some [4]))
  (.seq (.region [⟨(some 13), .mv (.t 4), none⟩,
    ⟨(some 2), .mv (.t 13), none⟩] (some [2]))
  .ret)))), [.t 2]⟩
theorem ref03_Right_ok : cFn Tryz.prog (kps [[1], [1, 7], [2], [4], [2]]) [] 49 = some ref03_Right_c := by kernel_rfl

abbrev ref03_Compare : Nat := 52
def ref03_Compare_c : MFn :=
  ⟨58, (.seq (.region [⟨(some 2), .box (.t 0), none⟩,
    ⟨(some 3), .box (.t 1), none⟩,
    ⟨(some 4), .mv (.c (.int .i64 0)), none⟩] (some [2, 3]))
  (.seq (.region [⟨(some 7), .fA 0 (.t 2), none⟩,
    ⟨(some 8), .ld none (.t 7), none⟩,
    ⟨(some 9), .fA 0 (.t 3), none⟩,
    ⟨(some 10), .ld none (.t 9), none⟩,
    ⟨(some 11), .call 107 [(.t 8), (.t 10)], none⟩,
    ⟨(some 5), .mv (.t 11), none⟩] (some [2, 3, 5]))
  (.seq (.seq (.region [⟨(some 12), .mv (.t 5), none⟩,
    ⟨(some 13), .bin .eql (.t 12) (.c (.int .i64 0)), none⟩] (some [2, 3, 5, 13]))
  (.cond (.t 13)
    (.region [⟨(some 14), .fA 1 (.t 2), none⟩,
      ⟨(some 15), .ld none (.t 14), none⟩,
      ⟨(some 16), .fA 1 (.t 3), none⟩,
      ⟨(some 17), .ld none (.t 16), none⟩,
      ⟨(some 18), .call 107 [(.t 15), (.t 17)], none⟩,
      ⟨(some 5), .mv (.t 18), none⟩] (some [2, 3, 5]))
    .skip))
  (.seq (.seq (.region [⟨(some 6), .mv (.c (.int .i64 0)), none⟩] (some [2, 3, 5, 6]))
  (.block 0 (.loop (.seq (.seq (.region [⟨(some 19), .mv (.t 5), none⟩,
        ⟨(some 20), .bin .eql (.t 19) (.c (.int .i64 0)), none⟩,
        ⟨(some 21), .mv (.t 20), none⟩,
        ⟨(some 22), .mv (.t 6), (some (21, true))⟩,
        ⟨(some 23), .fA 2 (.t 2), (some (21, true))⟩,
        ⟨(some 24), .ld none (.t 23), (some (21, true))⟩,
        ⟨(some 25), .lenS (.t 24), (some (21, true))⟩,
        ⟨(some 26), .bin .lss (.t 22) (.t 25), (some (21, true))⟩,
        ⟨(some 27), .pick (.t 21) (.t 26) (.c (.bool false)), none⟩,
        ⟨(some 28), .mv (.t 27), none⟩,
        ⟨(some 29), .mv (.t 6), (some (28, true))⟩,
        ⟨(some 30), .fA 2 (.t 3), (some (28, true))⟩,
        ⟨(some 31), .ld none (.t 30), (some (28, true))⟩,
        ⟨(some 32), .lenS (.t 31), (some (28, true))⟩,
        ⟨(some 33), .bin .lss (.t 29) (.t 32), (some (28, true))⟩,
        ⟨(some 34), .pick (.t 28) (.t 33) (.c (.bool false)), none⟩] (some [2, 3, 5, 6, 34]))
      (.cond (.t 34)
        .skip
        (.exit 0)))
      (.seq (.block 1 (.region [⟨(some 37), .fA 2 (.t 2), none⟩,
          ⟨(some 38), .ld none (.t 37), none⟩,
          ⟨(some 39), .mv (.t 6), none⟩,
          ⟨(some 40), .ixA 3 (.t 38) (.t 39), none⟩,
          ⟨(some 41), .ld (some 3) (.t 40), none⟩,
          ⟨(some 42), .fA 2 (.t 3), none⟩,
          ⟨(some 43), .ld none (.t 42), none⟩,
          ⟨(some 44), .mv (.t 6), none⟩,
          ⟨(some 45), .ixA 3 (.t 43) (.t 44), none⟩,
          ⟨(some 46), .ld (some 3) (.t 45), none⟩,
          ⟨(some 47), .callF 52 [(.t 41), (.t 46)], none⟩,
          ⟨(some 5), .mv (.t 47), none⟩] (some [2, 3, 5, 6])))
      (.region [⟨(some 35), .mv (.t 6), none⟩,
        ⟨(some 36), .bin .add (.t 35) (.c (.int .i64 1)), none⟩,
        ⟨(some 6), .mv (.t 36), none⟩] (some [2, 3, 5, 6])))))))
  (.seq (.seq (.region [⟨(some 48), .mv (.t 5), none⟩,
    ⟨(some 49), .bin .eql (.t 48) (.c (.int .i64 0)), none⟩] (some [2, 3, 5, 49]))
  (.cond (.t 49)
    (.region [⟨(some 50), .fA 2 (.t 2), none⟩,
      ⟨(some 51), .ld none (.t 50), none⟩,
      ⟨(some 52), .lenS (.t 51), none⟩,
      ⟨(some 53), .fA 2 (.t 3), none⟩,
      ⟨(some 54), .ld none (.t 53), none⟩,
      ⟨(some 55), .lenS (.t 54), none⟩,
      ⟨(some 56), .call 107 [(.t 52), (.t 55)], none⟩,
      ⟨(some 5), .mv (.t 56), none⟩] (some [5]))
    .skip))
  (.seq (.region [⟨(some 57), .mv (.t 5), none⟩,
    ⟨(some 4), .mv (.t 57), none⟩] (some [4]))
  .ret)))))), [.t 4]⟩
theorem ref03_Compare_ok : cFn Tryz.prog (kps [[2, 3], [2, 3, 5], [2, 3, 5, 13], [2, 3, 5], [2, 3, 5, 6], [2, 3, 5, 6, 34], [2, 3, 5, 6], [2, 3, 5, 6], [2, 3, 5, 49], [5], [4]]) [] 52 = some ref03_Compare_c := by kernel_rfl

abbrev ref03_Same : Nat := 68
def ref03_Same_c : MFn :=
  ⟨9, (.seq (.region [⟨(some 2), .box (.t 0), none⟩,
    ⟨(some 3), .box (.t 1), none⟩,
    ⟨(some 4), .mv (.c (.bool false)), none⟩] (some [2, 3]))
  (.seq (.region [⟨(some 5), .ld (some 3) (.t 2), none⟩,
    ⟨(some 6), .ld (some 3) (.t 3), none⟩,
    ⟨(some 7), .call 52 [(.t 5), (.t 6)], none⟩,
    ⟨(some 8), .bin .eql (.t 7) (.c (.int .i64 0)), none⟩,
    ⟨(some 4), .mv (.t 8), none⟩] (some [4]))
  .ret)), [.t 4]⟩
theorem ref03_Same_ok : cFn Tryz.prog (kps [[2, 3], [4]]) [] 68 = some ref03_Same_c := by kernel_rfl

abbrev value_shape : Nat := 89
def value_shape_c : MFn :=
  ⟨127, (.seq (.region [⟨(some 2), .box (.t 0), none⟩,
    ⟨(some 4), .alloc [.int .i64 0, .nils], none⟩,
    ⟨(some 5), .mv (.c (.bool false)), none⟩] (some [1, 2, 4]))
  (.seq (.region [⟨(some 16), .fA 0 (.t 2), none⟩,
    ⟨(some 17), .ld none (.t 16), none⟩,
    ⟨(some 18), .build [.int .i64 0, .nils] [(0, 1, (.t 17))], none⟩,
    ⟨(some 6), .alloc [.int .i64 0, .nils], none⟩,
    ⟨none, .st 2 (.t 6) (.t 18), none⟩] (some [1, 2, 4, 6]))
  (.seq (.block 0 (.seq (.region [⟨(some 20), .mv (.t 1), none⟩,
      ⟨(some 21), .bin .lss (.t 20) (.c (.int .i64 1)), none⟩,
      ⟨(some 19), .mv (.t 21), none⟩] (some [1, 2, 4, 6, 19]))
    (.cond (.t 19)
      (.seq (.region [⟨(some 22), .ld (some 2) (.t 6), none⟩,
        ⟨none, .st 2 (.t 4) (.t 22), none⟩,
        ⟨(some 5), .mv (.c (.bool false)), none⟩] (some [4, 5]))
      .ret)
      (.seq (.region [⟨(some 24), .fA 0 (.t 2), none⟩,
        ⟨(some 25), .ld none (.t 24), none⟩,
        ⟨(some 26), .bin .eql (.t 25) (.c (.int .i64 1)), none⟩,
        ⟨(some 27), .mv (.t 26), none⟩,
        ⟨(some 28), .fA 0 (.t 2), (some (27, false))⟩,
        ⟨(some 29), .ld none (.t 28), (some (27, false))⟩,
        ⟨(some 30), .bin .eql (.t 29) (.c (.int .i64 2)), (some (27, false))⟩,
        ⟨(some 31), .pick (.t 27) (.c (.bool true)) (.t 30), none⟩,
        ⟨(some 23), .mv (.t 31), none⟩] (some [1, 2, 4, 6, 23]))
      (.cond (.t 23)
        (.seq (.region [⟨(some 32), .ld (some 2) (.t 6), none⟩,
          ⟨(some 33), .ld (some 2) (.t 6), none⟩,
          ⟨(some 34), .ld (some 3) (.t 2), none⟩,
          ⟨(some 35), .callF 124 [(.t 33), (.t 34)], none⟩,
          ⟨none, .st 2 (.t 4) (.t 32), none⟩,
          ⟨(some 5), .mv (.t 35), none⟩] (some [4, 5]))
        .ret)
        (.seq (.region [⟨(some 37), .fA 0 (.t 2), none⟩,
          ⟨(some 38), .ld none (.t 37), none⟩,
          ⟨(some 39), .bin .eql (.t 38) (.c (.int .i64 3)), none⟩,
          ⟨(some 40), .mv (.t 39), none⟩,
          ⟨(some 41), .fA 1 (.t 2), (some (40, true))⟩,
          ⟨(some 42), .ld none (.t 41), (some (40, true))⟩,
          ⟨(some 43), .bin .eql (.t 42) (.c (.int .i64 0)), (some (40, true))⟩,
          ⟨(some 44), .pick (.t 40) (.t 43) (.c (.bool false)), none⟩,
          ⟨(some 45), .mv (.t 44), none⟩,
          ⟨(some 46), .fA 2 (.t 2), (some (45, true))⟩,
          ⟨(some 47), .ld none (.t 46), (some (45, true))⟩,
          ⟨(some 48), .lenS (.t 47), (some (45, true))⟩,
          ⟨(some 49), .bin .geq (.t 48) (.c (.int .i64 2)), (some (45, true))⟩,
          ⟨(some 50), .pick (.t 45) (.t 49) (.c (.bool false)), none⟩,
          ⟨(some 51), .mv (.t 50), none⟩,
          ⟨(some 52), .fA 2 (.t 2), (some (51, true))⟩,
          ⟨(some 53), .ld none (.t 52), (some (51, true))⟩,
          ⟨(some 54), .lenS (.t 53), (some (51, true))⟩,
          ⟨(some 55), .bin .leq (.t 54) (.c (.int .i64 4)), (some (51, true))⟩,
          ⟨(some 56), .pick (.t 51) (.t 55) (.c (.bool false)), none⟩,
          ⟨(some 36), .mv (.t 56), none⟩] (some [1, 2, 4, 6, 36]))
        (.cond (.t 36)
          (.seq (.seq (.region [⟨(some 57), .fA 2 (.t 2), none⟩,
            ⟨(some 58), .ld none (.t 57), none⟩,
            ⟨(some 59), .lenS (.t 58), none⟩,
            ⟨(some 60), .mv (.c (.int .i64 0)), none⟩] (some [1, 4, 6, 58, 59, 60]))
          (.block 1 (.loop (.seq (.region [⟨(some 61), .bin .lss (.t 60) (.t 59), none⟩] (some [1, 4, 6, 58, 59, 60, 61]))
              (.seq (.cond (.t 61)
                .skip
                (.exit 1))
              (.seq (.block 2 (.seq (.region [⟨(some 62), .ixA 3 (.t 58) (.t 60), none⟩,
                  ⟨(some 63), .ld (some 3) (.t 62), none⟩,
                  ⟨(some 8), .alloc [.int .i64 0, .int .i64 0, .nils], none⟩,
                  ⟨none, .st 3 (.t 8) (.t 63), none⟩] (some [1, 4, 6, 8, 58, 59, 60]))
                (.seq (.region [⟨(some 65), .ld (some 3) (.t 8), none⟩,
                  ⟨(some 66), .mv (.t 1), none⟩,
                  ⟨(some 67), .bin .sub (.t 66) (.c (.int .i64 1)), none⟩,
                  ⟨(some 68), .call 89 [(.t 65), (.t 67)], none⟩,
                  ⟨(some 64), .mv (.t 68), none⟩,
                  ⟨(some 69), .ext (.t 64) 0, none⟩,
                  ⟨(some 70), .ext (.t 64) 1, none⟩,
                  ⟨(some 9), .alloc [.int .i64 0, .nils], none⟩,
                  ⟨none, .st 2 (.t 9) (.t 69), none⟩,
                  ⟨(some 10), .mv (.t 70), none⟩] (some [1, 4, 6, 9, 10, 58, 59, 60]))
                (.seq (.seq (.region [⟨(some 71), .mv (.t 10), none⟩,
                  ⟨(some 72), .un .not (.t 71), none⟩] (some [1, 4, 6, 9, 58, 59, 60, 72]))
                (.cond (.t 72)
                  (.seq (.region [⟨(some 73), .ld (some 2) (.t 6), none⟩,
                    ⟨none, .st 2 (.t 4) (.t 73), none⟩,
                    ⟨(some 5), .mv (.c (.bool false)), none⟩] (some [4, 5]))
                  .ret)
                  .skip))
                (.region [⟨(some 74), .fA 1 (.t 6), none⟩,
                  ⟨(some 75), .ld none (.t 74), none⟩,
                  ⟨(some 76), .ld (some 2) (.t 9), none⟩,
                  ⟨(some 77), .buildSl 2 1 [.int .i64 0, .nils] [(0, (.t 76))], none⟩,
                  ⟨(some 78), .app 2 32 (.t 75) (.t 77), none⟩,
                  ⟨(some 79), .fA 1 (.t 6), none⟩,
                  ⟨none, .st 1 (.t 79) (.t 78), none⟩] (some [1, 4, 6, 58, 59, 60]))))))
              (.region [⟨(some 80), .bin .add (.t 60) (.c (.int .i64 1)), none⟩,
                ⟨(some 60), .mv (.t 80), none⟩] (some [1, 4, 6, 58, 59, 60]))))))))
          (.seq (.region [⟨(some 81), .ld (some 2) (.t 6), none⟩,
            ⟨none, .st 2 (.t 4) (.t 81), none⟩,
            ⟨(some 5), .mv (.c (.bool true)), none⟩] (some [4, 5]))
          .ret))
          (.seq (.region [⟨(some 83), .fA 0 (.t 2), none⟩,
            ⟨(some 84), .ld none (.t 83), none⟩,
            ⟨(some 85), .bin .eql (.t 84) (.c (.int .i64 4)), none⟩,
            ⟨(some 86), .mv (.t 85), none⟩,
            ⟨(some 87), .fA 1 (.t 2), (some (86, true))⟩,
            ⟨(some 88), .ld none (.t 87), (some (86, true))⟩,
            ⟨(some 89), .bin .eql (.t 88) (.c (.int .i64 0)), (some (86, true))⟩,
            ⟨(some 90), .pick (.t 86) (.t 89) (.c (.bool false)), none⟩,
            ⟨(some 91), .mv (.t 90), none⟩,
            ⟨(some 92), .fA 2 (.t 2), (some (91, true))⟩,
            ⟨(some 93), .ld none (.t 92), (some (91, true))⟩,
            ⟨(some 94), .lenS (.t 93), (some (91, true))⟩,
            ⟨(some 95), .bin .leq (.t 94) (.c (.int .i64 32)), (some (91, true))⟩,
            ⟨(some 96), .pick (.t 91) (.t 95) (.c (.bool false)), none⟩,
            ⟨(some 82), .mv (.t 96), none⟩] (some [1, 2, 4, 6, 82]))
          (.cond (.t 82)
            (.seq (.region [⟨(some 11), .alloc [.int .i64 0, .nils], none⟩] (some [1, 2, 4, 6, 11]))
            (.seq (.seq (.region [⟨(some 97), .fA 2 (.t 2), none⟩,
              ⟨(some 98), .ld none (.t 97), none⟩,
              ⟨(some 99), .lenS (.t 98), none⟩,
              ⟨(some 100), .mv (.c (.int .i64 0)), none⟩] (some [1, 4, 6, 11, 98, 99, 100]))
            (.block 3 (.loop (.seq (.region [⟨(some 101), .bin .lss (.t 100) (.t 99), none⟩] (some [1, 4, 6, 11, 98, 99, 100, 101]))
                (.seq (.cond (.t 101)
                  .skip
                  (.exit 3))
                (.seq (.block 4 (.seq (.region [⟨(some 102), .ixA 3 (.t 98) (.t 100), none⟩,
                    ⟨(some 103), .ld (some 3) (.t 102), none⟩,
                    ⟨(some 13), .alloc [.int .i64 0, .int .i64 0, .nils], none⟩,
                    ⟨none, .st 3 (.t 13) (.t 103), none⟩] (some [1, 4, 6, 11, 13, 98, 99, 100]))
                  (.seq (.region [⟨(some 105), .ld (some 3) (.t 13), none⟩,
                    ⟨(some 106), .mv (.t 1), none⟩,
                    ⟨(some 107), .bin .sub (.t 106) (.c (.int .i64 1)), none⟩,
                    ⟨(some 108), .call 89 [(.t 105), (.t 107)], none⟩,
                    ⟨(some 104), .mv (.t 108), none⟩,
                    ⟨(some 109), .ext (.t 104) 0, none⟩,
                    ⟨(some 110), .ext (.t 104) 1, none⟩,
                    ⟨(some 14), .alloc [.int .i64 0, .nils], none⟩,
                    ⟨none, .st 2 (.t 14) (.t 109), none⟩,
                    ⟨(some 15), .mv (.t 110), none⟩] (some [1, 4, 6, 11, 14, 15, 98, 99, 100]))
                  (.seq (.seq (.region [⟨(some 111), .mv (.t 15), none⟩] (some [1, 4, 6, 11, 14, 15, 98, 99, 100, 111]))
                  (.cond (.t 111)
                    (.region [⟨(some 113), .ld (some 2) (.t 11), none⟩,
                      ⟨(some 114), .ld (some 2) (.t 14), none⟩,
                      ⟨(some 115), .call 125 [(.t 113), (.t 114)], none⟩,
                      ⟨(some 112), .mv (.t 115), none⟩,
                      ⟨(some 116), .ext (.t 112) 0, none⟩,
                      ⟨(some 117), .ext (.t 112) 1, none⟩,
                      ⟨none, .st 2 (.t 11) (.t 116), none⟩,
                      ⟨(some 15), .mv (.t 117), none⟩] (some [1, 4, 6, 11, 15, 98, 99, 100]))
                    .skip))
                  (.seq (.region [⟨(some 118), .mv (.t 15), none⟩,
                    ⟨(some 119), .un .not (.t 118), none⟩] (some [1, 4, 6, 11, 98, 99, 100, 119]))
                  (.cond (.t 119)
                    (.seq (.region [⟨(some 120), .ld (some 2) (.t 6), none⟩,
                      ⟨none, .st 2 (.t 4) (.t 120), none⟩,
                      ⟨(some 5), .mv (.c (.bool false)), none⟩] (some [4, 5]))
                    .ret)
                    .skip))))))
                (.region [⟨(some 121), .bin .add (.t 100) (.c (.int .i64 1)), none⟩,
                  ⟨(some 100), .mv (.t 121), none⟩] (some [1, 4, 6, 11, 98, 99, 100]))))))))
            (.seq (.region [⟨(some 122), .ld (some 2) (.t 11), none⟩,
              ⟨(some 123), .buildSl 2 1 [.int .i64 0, .nils] [(0, (.t 122))], none⟩,
              ⟨(some 124), .fA 1 (.t 6), none⟩,
              ⟨none, .st 1 (.t 124) (.t 123), none⟩] (some [4, 6]))
            (.seq (.region [⟨(some 125), .ld (some 2) (.t 6), none⟩,
              ⟨none, .st 2 (.t 4) (.t 125), none⟩,
              ⟨(some 5), .mv (.c (.bool true)), none⟩] (some [4, 5]))
            .ret))))
            .skip)))))))))
  (.seq (.region [⟨(some 126), .ld (some 2) (.t 6), none⟩,
    ⟨none, .st 2 (.t 4) (.t 126), none⟩,
    ⟨(some 5), .mv (.c (.bool false)), none⟩] (some [4, 5]))
  .ret)))), [.cell 4 (some 2), .t 5]⟩
theorem value_shape_ok : cFn Tryz.prog (kps [[1, 2, 4], [1, 2, 4, 6], [1, 2, 4, 6, 19], [4, 5], [1, 2, 4, 6, 23], [4, 5], [1, 2, 4, 6, 36], [1, 4, 6, 58, 59, 60], [1, 4, 6, 58, 59, 60, 61], [1, 4, 6, 8, 58, 59, 60], [1, 4, 6, 9, 10, 58, 59, 60], [1, 4, 6, 9, 58, 59, 60, 72], [4, 5], [1, 4, 6, 58, 59, 60], [1, 4, 6, 58, 59, 60], [4, 5], [1, 2, 4, 6, 82], [1, 2, 4, 6, 11], [1, 4, 6, 11, 98, 99, 100], [1, 4, 6, 11, 98, 99, 100, 101], [1, 4, 6, 11, 13, 98, 99, 100], [1, 4, 6, 11, 14, 15, 98, 99, 100], [1, 4, 6, 11, 14, 15, 98, 99, 100, 111], [1, 4, 6, 11, 15, 98, 99, 100], [1, 4, 6, 11, 98, 99, 100, 119], [4, 5], [1, 4, 6, 11, 98, 99, 100], [4, 6], [4, 5], [4, 5]]) [] 89 = some value_shape_c := by kernel_rfl

abbrev value_TypeRight : Nat := 90
def value_TypeRight_c : MFn :=
  ⟨5, (.seq (.region [⟨(some 1), .box (.t 0), none⟩,
    ⟨(some 2), .mv (.c (.bool false)), none⟩] (some [1]))
  (.seq (.region [⟨(some 3), .ld (some 2) (.t 1), none⟩,
    ⟨(some 4), .call 126 [(.t 3), (.c (.int .i64 40))], none⟩,
    ⟨(some 2), .mv (.t 4), none⟩] (some [2]))
  .ret)), [.t 2]⟩
theorem value_TypeRight_ok : cFn Tryz.prog (kps [[1], [2]]) [] 90 = some value_TypeRight_c := by kernel_rfl

abbrev value_closed : Nat := 91
def value_closed_c : MFn :=
  ⟨29, (.seq (.region [⟨(some 1), .box (.t 0), none⟩,
    ⟨(some 2), .alloc [.int .i64 0, .nils], none⟩] (some [1, 2]))
  (.seq (.seq (.region [⟨(some 6), .fA 0 (.t 1), none⟩,
    ⟨(some 7), .ld none (.t 6), none⟩,
    ⟨(some 8), .bin .eql (.t 7) (.c (.int .i64 0)), none⟩] (some [1, 2, 8]))
  (.cond (.t 8)
    (.seq (.region [⟨(some 9), .build [.int .i64 0, .nils] [(0, 1, (.c (.int .i64 1)))], none⟩,
      ⟨none, .st 2 (.t 2) (.t 9), none⟩] (some [2]))
    .ret)
    .skip))
  (.seq (.region [⟨(some 10), .fA 0 (.t 1), none⟩,
    ⟨(some 11), .ld none (.t 10), none⟩,
    ⟨(some 12), .build [.int .i64 0, .nils] [(0, 1, (.t 11))], none⟩,
    ⟨(some 3), .alloc [.int .i64 0, .nils], none⟩,
    ⟨none, .st 2 (.t 3) (.t 12), none⟩] (some [1, 2, 3]))
  (.seq (.seq (.region [⟨(some 13), .fA 1 (.t 1), none⟩,
    ⟨(some 14), .ld none (.t 13), none⟩,
    ⟨(some 15), .lenS (.t 14), none⟩,
    ⟨(some 16), .mv (.c (.int .i64 0)), none⟩] (some [2, 3, 14, 15, 16]))
  (.block 0 (.loop (.seq (.region [⟨(some 17), .bin .lss (.t 16) (.t 15), none⟩] (some [2, 3, 14, 15, 16, 17]))
      (.seq (.cond (.t 17)
        .skip
        (.exit 0))
      (.seq (.block 1 (.seq (.region [⟨(some 18), .ixA 2 (.t 14) (.t 16), none⟩,
          ⟨(some 19), .ld (some 2) (.t 18), none⟩,
          ⟨(some 5), .alloc [.int .i64 0, .nils], none⟩,
          ⟨none, .st 2 (.t 5) (.t 19), none⟩] (some [2, 3, 5, 14, 15, 16]))
        (.region [⟨(some 20), .fA 1 (.t 3), none⟩,
          ⟨(some 21), .ld none (.t 20), none⟩,
          ⟨(some 22), .ld (some 2) (.t 5), none⟩,
          ⟨(some 23), .callF 91 [(.t 22)], none⟩,
          ⟨(some 24), .buildSl 2 1 [.int .i64 0, .nils] [(0, (.t 23))], none⟩,
          ⟨(some 25), .app 2 32 (.t 21) (.t 24), none⟩,
          ⟨(some 26), .fA 1 (.t 3), none⟩,
          ⟨none, .st 1 (.t 26) (.t 25), none⟩] (some [2, 3, 14, 15, 16]))))
      (.region [⟨(some 27), .bin .add (.t 16) (.c (.int .i64 1)), none⟩,
        ⟨(some 16), .mv (.t 27), none⟩] (some [2, 3, 14, 15, 16]))))))))
  (.seq (.region [⟨(some 28), .ld (some 2) (.t 3), none⟩,
    ⟨none, .st 2 (.t 2) (.t 28), none⟩] (some [2]))
  .ret))))), [.cell 2 (some 2)]⟩
theorem value_closed_ok : cFn Tryz.prog (kps [[1, 2], [1, 2, 8], [2], [1, 2, 3], [2, 3, 14, 15, 16], [2, 3, 14, 15, 16, 17], [2, 3, 5, 14, 15, 16], [2, 3, 14, 15, 16], [2, 3, 14, 15, 16], [2]]) [] 91 = some value_closed_c := by kernel_rfl

abbrev value_Size : Nat := 92
def value_Size_c : MFn :=
  ⟨22, (.seq (.region [⟨(some 1), .box (.t 0), none⟩,
    ⟨(some 2), .mv (.c (.int .i64 0)), none⟩] (some [1]))
  (.seq (.region [⟨(some 3), .mv (.c (.int .i64 1)), none⟩] (some [1, 3]))
  (.seq (.seq (.region [⟨(some 6), .fA 2 (.t 1), none⟩,
    ⟨(some 7), .ld none (.t 6), none⟩,
    ⟨(some 8), .lenS (.t 7), none⟩,
    ⟨(some 9), .mv (.c (.int .i64 0)), none⟩] (some [3, 7, 8, 9]))
  (.block 0 (.loop (.seq (.region [⟨(some 10), .bin .lss (.t 9) (.t 8), none⟩] (some [3, 7, 8, 9, 10]))
      (.seq (.cond (.t 10)
        .skip
        (.exit 0))
      (.seq (.block 1 (.seq (.region [⟨(some 11), .ixA 3 (.t 7) (.t 9), none⟩,
          ⟨(some 12), .ld (some 3) (.t 11), none⟩,
          ⟨(some 5), .alloc [.int .i64 0, .int .i64 0, .nils], none⟩,
          ⟨none, .st 3 (.t 5) (.t 12), none⟩] (some [3, 5, 7, 8, 9]))
        (.seq (.region [⟨(some 13), .mv (.t 3), none⟩,
          ⟨(some 14), .ld (some 3) (.t 5), none⟩,
          ⟨(some 15), .call 92 [(.t 14)], none⟩,
          ⟨(some 16), .bin .add (.t 13) (.t 15), none⟩,
          ⟨(some 17), .min2 (.t 16) (.c (.int .i64 1001)), none⟩,
          ⟨(some 3), .mv (.t 17), none⟩] (some [3, 7, 8, 9]))
        (.seq (.region [⟨(some 18), .mv (.t 3), none⟩,
          ⟨(some 19), .bin .gtr (.t 18) (.c (.int .i64 1000)), none⟩] (some [3, 7, 8, 9, 19]))
        (.cond (.t 19)
          (.exit 0)
          .skip)))))
      (.region [⟨(some 20), .bin .add (.t 9) (.c (.int .i64 1)), none⟩,
        ⟨(some 9), .mv (.t 20), none⟩] (some [3, 7, 8, 9]))))))))
  (.seq (.region [⟨(some 21), .mv (.t 3), none⟩,
    ⟨(some 2), .mv (.t 21), none⟩] (some [2]))
  .ret)))), [.t 2]⟩
theorem value_Size_ok : cFn Tryz.prog (kps [[1], [1, 3], [3, 7, 8, 9], [3, 7, 8, 9, 10], [3, 5, 7, 8, 9], [3, 7, 8, 9], [3, 7, 8, 9, 19], [3, 7, 8, 9], [2]]) [] 92 = some value_Size_c := by kernel_rfl

abbrev cmp_Compare_int : Nat := 97
def cmp_Compare_int_c : MFn :=
  ⟨20, (.seq (.region [⟨(some 4), .mv (.c (.int .i64 0)), none⟩] (some [0, 1]))
  (.seq (.region [⟨(some 7), .mv (.t 0), none⟩,
    ⟨(some 8), .call 128 [(.t 7)], none⟩,
    ⟨(some 5), .mv (.t 8), none⟩] (some [0, 1, 5]))
  (.seq (.region [⟨(some 9), .mv (.t 1), none⟩,
    ⟨(some 10), .call 128 [(.t 9)], none⟩,
    ⟨(some 6), .mv (.t 10), none⟩] (some [0, 1, 5, 6]))
  (.seq (.seq (.region [⟨(some 11), .mv (.t 5), none⟩] (some [0, 1, 6, 11]))
  (.cond (.t 11)
    (.seq (.seq (.region [⟨(some 12), .mv (.t 6), none⟩] (some [12]))
    (.cond (.t 12)
      (.seq (.region [⟨(some 4), .mv (.c (.int .i64 0)), none⟩] (some [4]))
      .ret)
      .skip))
    (.seq (.region [⟨(some 4), .mv (.c (.int .i64 (-1))), none⟩] (some [4]))
    .ret))
    .skip))
  (.seq (.seq (.region [⟨(some 13), .mv (.t 6), none⟩] (some [0, 1, 13]))
  (.cond (.t 13)
    (.seq (.region [⟨(some 4), .mv (.c (.int .i64 1)), none⟩] (some [4]))
    .ret)
    .skip))
  (.seq (.seq (.region [⟨(some 14), .mv (.t 0), none⟩,
    ⟨(some 15), .mv (.t 1), none⟩,
    ⟨(some 16), .bin .lss (.t 14) (.t 15), none⟩] (some [0, 1, 16]))
  (.cond (.t 16)
    (.seq (.region [⟨(some 4), .mv (.c (.int .i64 (-1))), none⟩] (some [4]))
    .ret)
    .skip))
  (.seq (.seq (.region [⟨(some 17), .mv (.t 0), none⟩,
    ⟨(some 18), .mv (.t 1), none⟩,
    ⟨(some 19), .bin .gtr (.t 17) (.t 18), none⟩] (some [19]))
  (.cond (.t 19)
    (.seq (.region [⟨(some 4), .mv (.c (.int .i64 1)), none⟩] (some [4]))
    .ret)
    .skip))
  (.seq (.region [⟨(some 4), .mv (.c (.int .i64 0)), none⟩] (some [4]))
  .ret)))))))), [.t 4]⟩
theorem cmp_Compare_int_ok : cFn Tryz.prog (kps [[0, 1], [0, 1, 5], [0, 1, 5, 6], [0, 1, 6, 11], [12], [4], [4], [0, 1, 13], [4], [0, 1, 16], [4], [19], [4], [4]]) [] 97 = some cmp_Compare_int_c := by kernel_rfl

abbrev slices_CompareFunc_Value_Value_Value_Value : Nat := 98
def slices_CompareFunc_Value_Value_Value_Value_c : MFn :=
  ⟨39, (.seq (.region [⟨(some 6), .mv (.c (.int .i64 0)), none⟩] (some [0, 1, 2]))
  (.seq (.seq (.region [⟨(some 11), .mv (.t 0), none⟩,
    ⟨(some 12), .lenS (.t 11), none⟩,
    ⟨(some 13), .mv (.c (.int .i64 0)), none⟩] (some [0, 1, 2, 11, 12, 13]))
  (.block 0 (.loop (.seq (.region [⟨(some 14), .bin .lss (.t 13) (.t 12), none⟩] (some [0, 1, 2, 11, 12, 13, 14]))
      (.seq (.cond (.t 14)
        .skip
        (.exit 0))
      (.seq (.block 1 (.seq (.region [⟨(some 15), .mv (.t 13), none⟩,
          ⟨(some 16), .ixA 3 (.t 11) (.t 13), none⟩,
          ⟨(some 17), .ld (some 3) (.t 16), none⟩,
          ⟨(some 8), .alloc [.int .i64 0, .int .i64 0, .nils], none⟩,
          ⟨(some 7), .mv (.t 15), none⟩,
          ⟨none, .st 3 (.t 8) (.t 17), none⟩] (some [0, 1, 2, 7, 8, 11, 12, 13]))
        (.seq (.seq (.region [⟨(some 18), .mv (.t 7), none⟩,
          ⟨(some 19), .mv (.t 1), none⟩,
          ⟨(some 20), .lenS (.t 19), none⟩,
          ⟨(some 21), .bin .geq (.t 18) (.t 20), none⟩] (some [0, 1, 2, 7, 8, 11, 12, 13, 21]))
        (.cond (.t 21)
          (.seq (.region [⟨(some 6), .mv (.c (.int .i64 1)), none⟩] (some [6]))
          .ret)
          .skip))
        (.seq (.region [⟨(some 22), .mv (.t 1), none⟩,
          ⟨(some 23), .mv (.t 7), none⟩,
          ⟨(some 24), .ixA 3 (.t 22) (.t 23), none⟩,
          ⟨(some 25), .ld (some 3) (.t 24), none⟩,
          ⟨(some 9), .alloc [.int .i64 0, .int .i64 0, .nils], none⟩,
          ⟨none, .st 3 (.t 9) (.t 25), none⟩] (some [0, 1, 2, 8, 9, 11, 12, 13]))
        (.seq (.region [⟨(some 26), .mv (.t 2), none⟩,
          ⟨(some 27), .ld (some 3) (.t 8), none⟩,
          ⟨(some 28), .ld (some 3) (.t 9), none⟩,
          ⟨(some 29), .callV (.t 26) [(.t 27), (.t 28)], none⟩,
          ⟨(some 10), .mv (.t 29), none⟩] (some [0, 1, 2, 10, 11, 12, 13]))
        (.seq (.region [⟨(some 30), .mv (.t 10), none⟩,
          ⟨(some 31), .bin .neq (.t 30) (.c (.int .i64 0)), none⟩] (some [0, 1, 2, 10, 11, 12, 13, 31]))
        (.cond (.t 31)
          (.seq (.region [⟨(some 32), .mv (.t 10), none⟩,
            ⟨(some 6), .mv (.t 32), none⟩] (some [6]))
          .ret)
          .skip)))))))
      (.region [⟨(some 33), .bin .add (.t 13) (.c (.int .i64 1)), none⟩,
        ⟨(some 13), .mv (.t 33), none⟩] (some [0, 1, 2, 11, 12, 13]))))))))
  (.seq (.seq (.region [⟨(some 34), .mv (.t 0), none⟩,
    ⟨(some 35), .lenS (.t 34), none⟩,
    ⟨(some 36), .mv (.t 1), none⟩,
    ⟨(some 37), .lenS (.t 36), none⟩,
    ⟨(some 38), .bin .lss (.t 35) (.t 37), none⟩] (some [38]))
  (.cond (.t 38)
    (.seq (.region [⟨(some 6), .mv (.c (.int .i64 (-1))), none⟩] (some [6]))
    .ret)
    .skip))
  (.seq (.region [⟨(some 6), .mv (.c (.int .i64 0)), none⟩] (some [6]))
  .ret)))), [.t 6]⟩
theorem slices_CompareFunc_Value_Value_Value_Value_ok : cFn Tryz.prog (kps [[0, 1, 2], [0, 1, 2, 11, 12, 13], [0, 1, 2, 11, 12, 13, 14], [0, 1, 2, 7, 8, 11, 12, 13], [0, 1, 2, 7, 8, 11, 12, 13, 21], [6], [0, 1, 2, 8, 9, 11, 12, 13], [0, 1, 2, 10, 11, 12, 13], [0, 1, 2, 10, 11, 12, 13, 31], [6], [0, 1, 2, 11, 12, 13], [38], [6], [6]]) [] 98 = some slices_CompareFunc_Value_Value_Value_Value_c := by kernel_rfl

abbrev ref03_Size : Nat := 103
def ref03_Size_c : MFn :=
  ⟨5, (.seq (.region [⟨(some 1), .box (.t 0), none⟩,
    ⟨(some 2), .mv (.c (.int .i64 0)), none⟩] (some [1]))
  (.seq (.region [⟨(some 3), .ld (some 3) (.t 1), none⟩,
    ⟨(some 4), .call 130 [(.t 3), (.c (.int .i64 0))], none⟩,
    ⟨(some 2), .mv (.t 4), none⟩] (some [2]))
  .ret)), [.t 2]⟩
theorem ref03_Size_ok : cFn Tryz.prog (kps [[1], [2]]) [] 103 = some ref03_Size_c := by kernel_rfl

abbrev ref03_open : Nat := 104
def ref03_open_c : MFn :=
  ⟨129, (.seq (.region [⟨(some 2), .box (.t 0), none⟩,
    ⟨(some 4), .alloc [.int .i64 0, .nils], none⟩,
    ⟨(some 5), .mv (.c (.bool false)), none⟩] (some [1, 2, 4]))
  (.seq (.seq (.region [⟨(some 15), .mv (.t 1), none⟩,
    ⟨(some 16), .bin .gtr (.t 15) (.c (.int .i64 40)), none⟩] (some [1, 2, 4, 16]))
  (.cond (.t 16)
    (.seq (.region [⟨(some 17), .build [.int .i64 0, .nils] [], none⟩,
      ⟨none, .st 2 (.t 4) (.t 17), none⟩,
      ⟨(some 5), .mv (.c (.bool false)), none⟩] (some [4, 5]))
    .ret)
    .skip))
  (.seq (.seq (.region [⟨(some 18), .fA 0 (.t 2), none⟩,
    ⟨(some 19), .ld none (.t 18), none⟩] (some [1, 2, 4, 19]))
  (.block 0 (.seq (.seq (.region [⟨(some 21), .bin .eql (.t 19) (.c (.int .i64 1)), none⟩,
      ⟨(some 20), .mv (.t 21), none⟩] (some [1, 2, 4, 19, 20]))
    (.cond (.t 20)
      .skip
      (.region [⟨(some 22), .bin .eql (.t 19) (.c (.int .i64 2)), none⟩,
        ⟨(some 20), .mv (.t 22), none⟩] (some [1, 2, 4, 19, 20]))))
    (.cond (.t 20)
      (.seq (.region [⟨(some 23), .fA 0 (.t 2), none⟩,
        ⟨(some 24), .ld none (.t 23), none⟩,
        ⟨(some 25), .build [.int .i64 0, .nils] [(0, 1, (.t 24))], none⟩,
        ⟨(some 6), .alloc [.int .i64 0, .nils], none⟩,
        ⟨none, .st 2 (.t 6) (.t 25), none⟩] (some [2, 4, 6]))
      (.seq (.region [⟨(some 26), .ld (some 2) (.t 6), none⟩,
        ⟨(some 27), .ld (some 2) (.t 6), none⟩,
        ⟨(some 28), .ld (some 3) (.t 2), none⟩,
        ⟨(some 29), .callF 131 [(.t 27), (.t 28)], none⟩,
        ⟨none, .st 2 (.t 4) (.t 26), none⟩,
        ⟨(some 5), .mv (.t 29), none⟩] (some [4, 5]))
      .ret))
      (.seq (.region [⟨(some 31), .bin .eql (.t 19) (.c (.int .i64 3)), none⟩,
        ⟨(some 30), .mv (.t 31), none⟩] (some [1, 2, 4, 19, 30]))
      (.cond (.t 30)
        (.seq (.region [⟨(some 32), .fA 0 (.t 2), none⟩,
          ⟨(some 33), .ld none (.t 32), none⟩,
          ⟨(some 34), .build [.int .i64 0, .nils] [(0, 1, (.t 33))], none⟩,
          ⟨(some 7), .alloc [.int .i64 0, .nils], none⟩,
          ⟨none, .st 2 (.t 7) (.t 34), none⟩] (some [1, 2, 4, 7]))
        (.seq (.seq (.region [⟨(some 8), .mv (.c (.int .i64 0)), none⟩] (some [1, 2, 4, 7, 8]))
        (.block 1 (.loop (.seq (.seq (.region [⟨(some 35), .mv (.t 8), none⟩,
              ⟨(some 36), .fA 2 (.t 2), none⟩,
              ⟨(some 37), .ld none (.t 36), none⟩,
              ⟨(some 38), .lenS (.t 37), none⟩,
              ⟨(some 39), .bin .lss (.t 35) (.t 38), none⟩] (some [1, 2, 4, 7, 8, 39]))
            (.cond (.t 39)
              .skip
              (.exit 1)))
            (.seq (.block 2 (.seq (.region [⟨(some 43), .fA 2 (.t 2), none⟩,
                ⟨(some 44), .ld none (.t 43), none⟩,
                ⟨(some 45), .mv (.t 8), none⟩,
                ⟨(some 46), .ixA 3 (.t 44) (.t 45), none⟩,
                ⟨(some 47), .ld (some 3) (.t 46), none⟩,
                ⟨(some 48), .mv (.t 1), none⟩,
                ⟨(some 49), .bin .add (.t 48) (.c (.int .i64 1)), none⟩,
                ⟨(some 50), .call 104 [(.t 47), (.t 49)], none⟩,
                ⟨(some 42), .mv (.t 50), none⟩,
                ⟨(some 51), .ext (.t 42) 0, none⟩,
                ⟨(some 52), .ext (.t 42) 1, none⟩,
                ⟨(some 9), .alloc [.int .i64 0, .nils], none⟩,
                ⟨none, .st 2 (.t 9) (.t 51), none⟩,
                ⟨(some 10), .mv (.t 52), none⟩] (some [1, 2, 4, 7, 8, 9, 10]))
              (.seq (.seq (.region [⟨(some 53), .mv (.t 10), none⟩,
                ⟨(some 54), .un .not (.t 53), none⟩] (some [1, 2, 4, 7, 8, 9, 54]))
              (.cond (.t 54)
                (.seq (.region [⟨(some 55), .build [.int .i64 0, .nils] [], none⟩,
                  ⟨none, .st 2 (.t 4) (.t 55), none⟩,
                  ⟨(some 5), .mv (.c (.bool false)), none⟩] (some [4, 5]))
                .ret)
                .skip))
              (.region [⟨(some 56), .fA 1 (.t 7), none⟩,
                ⟨(some 57), .ld none (.t 56), none⟩,
                ⟨(some 58), .ld (some 2) (.t 9), none⟩,
                ⟨(some 59), .buildSl 2 1 [.int .i64 0, .nils] [(0, (.t 58))], none⟩,
                ⟨(some 60), .app 2 32 (.t 57) (.t 59), none⟩,
                ⟨(some 61), .fA 1 (.t 7), none⟩,
                ⟨none, .st 1 (.t 61) (.t 60), none⟩] (some [1, 2, 4, 7, 8])))))
            (.region [⟨(some 40), .mv (.t 8), none⟩,
              ⟨(some 41), .bin .add (.t 40) (.c (.int .i64 1)), none⟩,
              ⟨(some 8), .mv (.t 41), none⟩] (some [1, 2, 4, 7, 8])))))))
        (.seq (.region [⟨(some 62), .ld (some 2) (.t 7), none⟩,
          ⟨(some 63), .fA 1 (.t 2), none⟩,
          ⟨(some 64), .ld none (.t 63), none⟩,
          ⟨(some 65), .bin .eql (.t 64) (.c (.int .i64 0)), none⟩,
          ⟨(some 66), .mv (.t 65), none⟩,
          ⟨(some 67), .fA 2 (.t 2), (some (66, true))⟩,
          ⟨(some 68), .ld none (.t 67), (some (66, true))⟩,
          ⟨(some 69), .lenS (.t 68), (some (66, true))⟩,
          ⟨(some 70), .bin .geq (.t 69) (.c (.int .i64 2)), (some (66, true))⟩,
          ⟨(some 71), .pick (.t 66) (.t 70) (.c (.bool false)), none⟩,
          ⟨(some 72), .mv (.t 71), none⟩,
          ⟨(some 73), .fA 2 (.t 2), (some (72, true))⟩,
          ⟨(some 74), .ld none (.t 73), (some (72, true))⟩,
          ⟨(some 75), .lenS (.t 74), (some (72, true))⟩,
          ⟨(some 76), .bin .leq (.t 75) (.c (.int .i64 4)), (some (72, true))⟩,
          ⟨(some 77), .pick (.t 72) (.t 76) (.c (.bool false)), none⟩,
          ⟨none, .stA 2 (.t 4) (.t 62) [73], none⟩,
          ⟨(some 5), .mv (.t 77), none⟩] (some [4, 5]))
        .ret)))
        (.seq (.region [⟨(some 79), .bin .eql (.t 19) (.c (.int .i64 4)), none⟩,
          ⟨(some 78), .mv (.t 79), none⟩] (some [1, 2, 4, 78]))
        (.cond (.t 78)
          (.seq (.seq (.region [⟨(some 80), .fA 1 (.t 2), none⟩,
            ⟨(some 81), .ld none (.t 80), none⟩,
            ⟨(some 82), .bin .neq (.t 81) (.c (.int .i64 0)), none⟩,
            ⟨(some 83), .mv (.t 82), none⟩,
            ⟨(some 84), .fA 2 (.t 2), (some (83, false))⟩,
            ⟨(some 85), .ld none (.t 84), (some (83, false))⟩,
            ⟨(some 86), .lenS (.t 85), (some (83, false))⟩,
            ⟨(some 87), .bin .gtr (.t 86) (.c (.int .i64 32)), (some (83, false))⟩,
            ⟨(some 88), .pick (.t 83) (.c (.bool true)) (.t 87), none⟩,
            ⟨(some 89), .mv (.t 88), none⟩,
            ⟨(some 90), .mv (.t 1), (some (89, false))⟩,
            ⟨(some 91), .bin .eql (.t 90) (.c (.int .i64 40)), (some (89, false))⟩,
            ⟨(some 92), .pick (.t 89) (.c (.bool true)) (.t 91), none⟩] (some [1, 2, 4, 92]))
          (.cond (.t 92)
            (.seq (.region [⟨(some 93), .build [.int .i64 0, .nils] [], none⟩,
              ⟨none, .st 2 (.t 4) (.t 93), none⟩,
              ⟨(some 5), .mv (.c (.bool false)), none⟩] (some [4, 5]))
            .ret)
            .skip))
          (.seq (.region [⟨(some 94), .build [.int .i64 0, .nils] [], none⟩,
            ⟨(some 11), .alloc [.int .i64 0, .nils], none⟩,
            ⟨none, .st 2 (.t 11) (.t 94), none⟩] (some [1, 2, 4, 11]))
          (.seq (.seq (.region [⟨(some 12), .mv (.c (.int .i64 0)), none⟩] (some [1, 2, 4, 11, 12]))
          (.block 3 (.loop (.seq (.seq (.region [⟨(some 95), .mv (.t 12), none⟩,
                ⟨(some 96), .fA 2 (.t 2), none⟩,
                ⟨(some 97), .ld none (.t 96), none⟩,
                ⟨(some 98), .lenS (.t 97), none⟩,
                ⟨(some 99), .bin .lss (.t 95) (.t 98), none⟩] (some [1, 2, 4, 11, 12, 99]))
              (.cond (.t 99)
                .skip
                (.exit 3)))
              (.seq (.block 4 (.seq (.region [⟨(some 103), .fA 2 (.t 2), none⟩,
                  ⟨(some 104), .ld none (.t 103), none⟩,
                  ⟨(some 105), .mv (.t 12), none⟩,
                  ⟨(some 106), .ixA 3 (.t 104) (.t 105), none⟩,
                  ⟨(some 107), .ld (some 3) (.t 106), none⟩,
                  ⟨(some 108), .mv (.t 1), none⟩,
                  ⟨(some 109), .bin .add (.t 108) (.c (.int .i64 1)), none⟩,
                  ⟨(some 110), .call 104 [(.t 107), (.t 109)], none⟩,
                  ⟨(some 102), .mv (.t 110), none⟩,
                  ⟨(some 111), .ext (.t 102) 0, none⟩,
                  ⟨(some 112), .ext (.t 102) 1, none⟩,
                  ⟨(some 13), .alloc [.int .i64 0, .nils], none⟩,
                  ⟨none, .st 2 (.t 13) (.t 111), none⟩,
                  ⟨(some 14), .mv (.t 112), none⟩] (some [1, 2, 4, 11, 12, 13, 14]))
                (.seq (.seq (.region [⟨(some 113), .mv (.t 14), none⟩] (some [1, 2, 4, 11, 12, 13, 14, 113]))
                (.cond (.t 113)
                  (.region [⟨(some 115), .ld (some 2) (.t 11), none⟩,
                    ⟨(some 116), .ld (some 2) (.t 13), none⟩,
                    ⟨(some 117), .call 132 [(.t 115), (.t 116)], none⟩,
                    ⟨(some 114), .mv (.t 117), none⟩,
                    ⟨(some 118), .ext (.t 114) 0, none⟩,
                    ⟨(some 119), .ext (.t 114) 1, none⟩,
                    ⟨none, .st 2 (.t 11) (.t 118), none⟩,
                    ⟨(some 14), .mv (.t 119), none⟩] (some [1, 2, 4, 11, 12, 14]))
                  .skip))
                (.seq (.region [⟨(some 120), .mv (.t 14), none⟩,
                  ⟨(some 121), .un .not (.t 120), none⟩] (some [1, 2, 4, 11, 12, 121]))
                (.cond (.t 121)
                  (.seq (.region [⟨(some 122), .build [.int .i64 0, .nils] [], none⟩,
                    ⟨none, .st 2 (.t 4) (.t 122), none⟩,
                    ⟨(some 5), .mv (.c (.bool false)), none⟩] (some [4, 5]))
                  .ret)
                  .skip)))))
              (.region [⟨(some 100), .mv (.t 12), none⟩,
                ⟨(some 101), .bin .add (.t 100) (.c (.int .i64 1)), none⟩,
                ⟨(some 12), .mv (.t 101), none⟩] (some [1, 2, 4, 11, 12])))))))
          (.seq (.region [⟨(some 123), .fA 0 (.t 2), none⟩,
            ⟨(some 124), .ld none (.t 123), none⟩,
            ⟨(some 125), .ld (some 2) (.t 11), none⟩,
            ⟨(some 126), .buildSl 2 1 [.int .i64 0, .nils] [(0, (.t 125))], none⟩,
            ⟨(some 127), .build [.int .i64 0, .nils] [(0, 1, (.t 124)), (1, 1, (.t 126))], none⟩,
            ⟨none, .st 2 (.t 4) (.t 127), none⟩,
            ⟨(some 5), .mv (.c (.bool true)), none⟩] (some [4, 5]))
          .ret))))
          .skip))))))))
  (.seq (.region [⟨(some 128), .build [.int .i64 0, .nils] [], none⟩,
    ⟨none, .st 2 (.t 4) (.t 128), none⟩,
    ⟨(some 5), .mv (.c (.bool false)), none⟩] (some [4, 5]))
  .ret)))), [.cell 4 (some 2), .t 5]⟩
theorem ref03_open_ok : cFn Tryz.prog (kps [[1, 2, 4], [1, 2, 4, 16], [4, 5], [1, 2, 4, 19], [1, 2, 4, 19, 20], [1, 2, 4, 19, 20], [2, 4, 6], [4, 5], [1, 2, 4, 19, 30], [1, 2, 4, 7], [1, 2, 4, 7, 8], [1, 2, 4, 7, 8, 39], [1, 2, 4, 7, 8], [1, 2, 4, 7, 8, 9, 10], [1, 2, 4, 7, 8, 9, 54], [4, 5], [1, 2, 4, 7, 8], [4, 5], [1, 2, 4, 78], [1, 2, 4, 92], [4, 5], [1, 2, 4, 11], [1, 2, 4, 11, 12], [1, 2, 4, 11, 12, 99], [1, 2, 4, 11, 12], [1, 2, 4, 11, 12, 13, 14], [1, 2, 4, 11, 12, 13, 14, 113], [1, 2, 4, 11, 12, 14], [1, 2, 4, 11, 12, 121], [4, 5], [4, 5], [4, 5]]) [] 104 = some ref03_open_c := by kernel_rfl

abbrev ref03_order : Nat := 107
def ref03_order_c : MFn :=
  ⟨13, (.seq (.region [⟨(some 4), .mv (.c (.int .i64 0)), none⟩] (some [0, 1]))
  (.seq (.block 0 (.seq (.region [⟨(some 6), .mv (.t 0), none⟩,
      ⟨(some 7), .mv (.t 1), none⟩,
      ⟨(some 8), .bin .lss (.t 6) (.t 7), none⟩,
      ⟨(some 5), .mv (.t 8), none⟩] (some [0, 1, 5]))
    (.cond (.t 5)
      (.seq (.region [⟨(some 4), .mv (.c (.int .i64 (-1))), none⟩] (some [4]))
      .ret)
      (.seq (.region [⟨(some 10), .mv (.t 0), none⟩,
        ⟨(some 11), .mv (.t 1), none⟩,
        ⟨(some 12), .bin .gtr (.t 10) (.t 11), none⟩,
        ⟨(some 9), .mv (.t 12), none⟩] (some [9]))
      (.cond (.t 9)
        (.seq (.region [⟨(some 4), .mv (.c (.int .i64 1)), none⟩] (some [4]))
        .ret)
        .skip)))))
  (.seq (.region [⟨(some 4), .mv (.c (.int .i64 0)), none⟩] (some [4]))
  .ret))), [.t 4]⟩
theorem ref03_order_ok : cFn Tryz.prog (kps [[0, 1], [0, 1, 5], [4], [9], [4], [4]]) [] 107 = some ref03_order_c := by kernel_rfl

abbrev cmp_Or_int : Nat := 108
def cmp_Or_int_c : MFn :=
  ⟨18, (.seq (.region [⟨(some 2), .mv (.c (.int .i64 0)), none⟩] (some [0]))
  (.seq (.region [⟨(some 3), .mv (.c (.int .i64 0)), none⟩] (some [0, 3]))
  (.seq (.seq (.region [⟨(some 6), .mv (.t 0), none⟩,
    ⟨(some 7), .lenS (.t 6), none⟩,
    ⟨(some 8), .mv (.c (.int .i64 0)), none⟩] (some [3, 6, 7, 8]))
  (.block 0 (.loop (.seq (.region [⟨(some 9), .bin .lss (.t 8) (.t 7), none⟩] (some [3, 6, 7, 8, 9]))
      (.seq (.cond (.t 9)
        .skip
        (.exit 0))
      (.seq (.block 1 (.seq (.region [⟨(some 10), .ixA 1 (.t 6) (.t 8), none⟩,
          ⟨(some 11), .ld none (.t 10), none⟩,
          ⟨(some 5), .mv (.t 11), none⟩] (some [3, 5, 6, 7, 8]))
        (.seq (.region [⟨(some 12), .mv (.t 5), none⟩,
          ⟨(some 13), .mv (.t 3), none⟩,
          ⟨(some 14), .bin .neq (.t 12) (.t 13), none⟩] (some [3, 5, 6, 7, 8, 14]))
        (.cond (.t 14)
          (.seq (.region [⟨(some 15), .mv (.t 5), none⟩,
            ⟨(some 2), .mv (.t 15), none⟩] (some [2]))
          .ret)
          .skip))))
      (.region [⟨(some 16), .bin .add (.t 8) (.c (.int .i64 1)), none⟩,
        ⟨(some 8), .mv (.t 16), none⟩] (some [3, 6, 7, 8]))))))))
  (.seq (.region [⟨(some 17), .mv (.t 3), none⟩,
    ⟨(some 2), .mv (.t 17), none⟩] (some [2]))
  .ret)))), [.t 2]⟩
theorem cmp_Or_int_ok : cFn Tryz.prog (kps [[0], [0, 3], [3, 6, 7, 8], [3, 6, 7, 8, 9], [3, 5, 6, 7, 8], [3, 5, 6, 7, 8, 14], [2], [3, 6, 7, 8], [2]]) [] 108 = some cmp_Or_int_c := by kernel_rfl

abbrev value_has : Nat := 124
def value_has_c : MFn :=
  ⟨72, (.seq (.region [⟨(some 2), .box (.t 0), none⟩,
    ⟨(some 3), .box (.t 1), none⟩,
    ⟨(some 4), .mv (.c (.bool false)), none⟩] (some [2, 3]))
  (.seq (.seq (.region [⟨(some 5), .fA 0 (.t 3), none⟩,
    ⟨(some 6), .ld none (.t 5), none⟩,
    ⟨(some 7), .fA 0 (.t 2), none⟩,
    ⟨(some 8), .ld none (.t 7), none⟩,
    ⟨(some 9), .bin .neq (.t 6) (.t 8), none⟩] (some [2, 3, 9]))
  (.cond (.t 9)
    (.seq (.region [⟨(some 4), .mv (.c (.bool false)), none⟩] (some [4]))
    .ret)
    .skip))
  (.seq (.seq (.region [⟨(some 10), .fA 0 (.t 2), none⟩,
    ⟨(some 11), .ld none (.t 10), none⟩] (some [2, 3, 11]))
  (.block 0 (.seq (.region [⟨(some 13), .bin .eql (.t 11) (.c (.int .i64 1)), none⟩,
      ⟨(some 12), .mv (.t 13), none⟩] (some [2, 3, 11, 12]))
    (.cond (.t 12)
      (.seq (.region [⟨(some 14), .fA 1 (.t 3), none⟩,
        ⟨(some 15), .ld none (.t 14), none⟩,
        ⟨(some 16), .bin .eql (.t 15) (.c (.int .i64 0)), none⟩,
        ⟨(some 17), .mv (.t 16), none⟩,
        ⟨(some 18), .fA 1 (.t 3), (some (17, false))⟩,
        ⟨(some 19), .ld none (.t 18), (some (17, false))⟩,
        ⟨(some 20), .bin .eql (.t 19) (.c (.int .i64 1)), (some (17, false))⟩,
        ⟨(some 21), .pick (.t 17) (.c (.bool true)) (.t 20), none⟩,
        ⟨(some 22), .mv (.t 21), none⟩,
        ⟨(some 23), .fA 2 (.t 3), (some (22, true))⟩,
        ⟨(some 24), .ld none (.t 23), (some (22, true))⟩,
        ⟨(some 25), .lenS (.t 24), (some (22, true))⟩,
        ⟨(some 26), .bin .eql (.t 25) (.c (.int .i64 0)), (some (22, true))⟩,
        ⟨(some 27), .pick (.t 22) (.t 26) (.c (.bool false)), none⟩,
        ⟨(some 4), .mv (.t 27), none⟩] (some [4]))
      .ret)
      (.seq (.region [⟨(some 29), .bin .eql (.t 11) (.c (.int .i64 2)), none⟩,
        ⟨(some 28), .mv (.t 29), none⟩] (some [2, 3, 11, 28]))
      (.cond (.t 28)
        (.seq (.region [⟨(some 30), .fA 1 (.t 3), none⟩,
          ⟨(some 31), .ld none (.t 30), none⟩,
          ⟨(some 32), .bin .geq (.t 31) (.c (.int .i64 (-2147483648))), none⟩,
          ⟨(some 33), .mv (.t 32), none⟩,
          ⟨(some 34), .fA 1 (.t 3), (some (33, true))⟩,
          ⟨(some 35), .ld none (.t 34), (some (33, true))⟩,
          ⟨(some 36), .bin .leq (.t 35) (.c (.int .i64 2147483647)), (some (33, true))⟩,
          ⟨(some 37), .pick (.t 33) (.t 36) (.c (.bool false)), none⟩,
          ⟨(some 38), .mv (.t 37), none⟩,
          ⟨(some 39), .fA 2 (.t 3), (some (38, true))⟩,
          ⟨(some 40), .ld none (.t 39), (some (38, true))⟩,
          ⟨(some 41), .lenS (.t 40), (some (38, true))⟩,
          ⟨(some 42), .bin .eql (.t 41) (.c (.int .i64 0)), (some (38, true))⟩,
          ⟨(some 43), .pick (.t 38) (.t 42) (.c (.bool false)), none⟩,
          ⟨(some 4), .mv (.t 43), none⟩] (some [4]))
        .ret)
        (.seq (.region [⟨(some 45), .bin .eql (.t 11) (.c (.int .i64 3)), none⟩,
          ⟨(some 44), .mv (.t 45), none⟩] (some [2, 3, 44]))
        (.cond (.t 44)
          (.seq (.region [⟨(some 46), .fA 1 (.t 3), none⟩,
            ⟨(some 47), .ld none (.t 46), none⟩,
            ⟨(some 48), .bin .eql (.t 47) (.c (.int .i64 0)), none⟩,
            ⟨(some 49), .mv (.t 48), none⟩,
            ⟨(some 50), .fA 1 (.t 2), (some (49, true))⟩,
            ⟨(some 51), .ld none (.t 50), (some (49, true))⟩,
            ⟨(some 52), .fA 2 (.t 3), (some (49, true))⟩,
            ⟨(some 53), .ld none (.t 52), (some (49, true))⟩,
            ⟨(some 54), .call 140 [(.t 51), (.t 53), (.c (.clo 124 []))], (some (49, true))⟩,
            ⟨(some 55), .pick (.t 49) (.t 54) (.c (.bool false)), none⟩,
            ⟨(some 4), .mv (.t 55), none⟩] (some [4]))
          .ret)
          .skip))))))))
  (.seq (.region [⟨(some 56), .fA 1 (.t 3), none⟩,
    ⟨(some 57), .ld none (.t 56), none⟩,
    ⟨(some 58), .bin .eql (.t 57) (.c (.int .i64 0)), none⟩,
    ⟨(some 59), .mv (.t 58), none⟩,
    ⟨(some 60), .fA 2 (.t 3), (some (59, true))⟩,
    ⟨(some 61), .ld none (.t 60), (some (59, true))⟩,
    ⟨(some 62), .lenS (.t 61), (some (59, true))⟩,
    ⟨(some 63), .bin .leq (.t 62) (.c (.int .i64 32)), (some (59, true))⟩,
    ⟨(some 64), .pick (.t 59) (.t 63) (.c (.bool false)), none⟩,
    ⟨(some 65), .mv (.t 64), none⟩,
    ⟨(some 66), .fA 2 (.t 3), (some (65, true))⟩,
    ⟨(some 67), .ld none (.t 66), (some (65, true))⟩,
    ⟨(some 68), .mkF 142 [(.t 2)], (some (65, true))⟩,
    ⟨(some 69), .call 141 [(.t 67), (.t 68)], (some (65, true))⟩,
    ⟨(some 70), .un .not (.t 69), (some (65, true))⟩,
    ⟨(some 71), .pick (.t 65) (.t 70) (.c (.bool false)), none⟩,
    ⟨(some 4), .mv (.t 71), none⟩] (some [4]))
  .ret)))), [.t 4]⟩
theorem value_has_ok : cFn Tryz.prog (kps [[2, 3], [2, 3, 9], [4], [2, 3, 11], [2, 3, 11, 12], [4], [2, 3, 11, 28], [4], [2, 3, 44], [4], [4]]) [] 124 = some value_has_c := by kernel_rfl

abbrev value_join : Nat := 125
def value_join_c : MFn :=
  ⟨70, (.seq (.region [⟨(some 2), .box (.t 0), none⟩,
    ⟨(some 3), .box (.t 1), none⟩,
    ⟨(some 4), .alloc [.int .i64 0, .nils], none⟩,
    ⟨(some 5), .mv (.c (.bool false)), none⟩] (some [2, 3, 4]))
  (.seq (.block 0 (.seq (.region [⟨(some 11), .fA 0 (.t 2), none⟩,
      ⟨(some 12), .ld none (.t 11), none⟩,
      ⟨(some 13), .bin .eql (.t 12) (.c (.int .i64 0)), none⟩,
      ⟨(some 10), .mv (.t 13), none⟩] (some [2, 3, 4, 10]))
    (.cond (.t 10)
      (.seq (.region [⟨(some 14), .ld (some 2) (.t 3), none⟩,
        ⟨none, .st 2 (.t 4) (.t 14), none⟩,
        ⟨(some 5), .mv (.c (.bool true)), none⟩] (some [4, 5]))
      .ret)
      (.seq (.region [⟨(some 16), .fA 0 (.t 3), none⟩,
        ⟨(some 17), .ld none (.t 16), none⟩,
        ⟨(some 18), .bin .eql (.t 17) (.c (.int .i64 0)), none⟩,
        ⟨(some 15), .mv (.t 18), none⟩] (some [2, 3, 4, 15]))
      (.cond (.t 15)
        (.seq (.region [⟨(some 19), .ld (some 2) (.t 2), none⟩,
          ⟨none, .st 2 (.t 4) (.t 19), none⟩,
          ⟨(some 5), .mv (.c (.bool true)), none⟩] (some [4, 5]))
        .ret)
        (.seq (.region [⟨(some 21), .fA 0 (.t 2), none⟩,
          ⟨(some 22), .ld none (.t 21), none⟩,
          ⟨(some 23), .fA 0 (.t 3), none⟩,
          ⟨(some 24), .ld none (.t 23), none⟩,
          ⟨(some 25), .bin .neq (.t 22) (.t 24), none⟩,
          ⟨(some 26), .mv (.t 25), none⟩,
          ⟨(some 27), .fA 1 (.t 2), (some (26, false))⟩,
          ⟨(some 28), .ld none (.t 27), (some (26, false))⟩,
          ⟨(some 29), .lenS (.t 28), (some (26, false))⟩,
          ⟨(some 30), .fA 1 (.t 3), (some (26, false))⟩,
          ⟨(some 31), .ld none (.t 30), (some (26, false))⟩,
          ⟨(some 32), .lenS (.t 31), (some (26, false))⟩,
          ⟨(some 33), .bin .neq (.t 29) (.t 32), (some (26, false))⟩,
          ⟨(some 34), .pick (.t 26) (.c (.bool true)) (.t 33), none⟩,
          ⟨(some 20), .mv (.t 34), none⟩] (some [2, 3, 4, 20]))
        (.cond (.t 20)
          (.seq (.region [⟨(some 35), .ld (some 2) (.t 2), none⟩,
            ⟨none, .st 2 (.t 4) (.t 35), none⟩,
            ⟨(some 5), .mv (.c (.bool false)), none⟩] (some [4, 5]))
          .ret)
          .skip)))))))
  (.seq (.region [⟨(some 36), .fA 0 (.t 2), none⟩,
    ⟨(some 37), .ld none (.t 36), none⟩,
    ⟨(some 38), .build [.int .i64 0, .nils] [(0, 1, (.t 37))], none⟩,
    ⟨(some 6), .alloc [.int .i64 0, .nils], none⟩,
    ⟨none, .st 2 (.t 6) (.t 38), none⟩] (some [2, 3, 4, 6]))
  (.seq (.seq (.region [⟨(some 39), .fA 1 (.t 2), none⟩,
    ⟨(some 40), .ld none (.t 39), none⟩,
    ⟨(some 41), .lenS (.t 40), none⟩,
    ⟨(some 42), .mv (.c (.int .i64 0)), none⟩] (some [2, 3, 4, 6, 41, 42]))
  (.block 1 (.loop (.seq (.region [⟨(some 43), .bin .lss (.t 42) (.t 41), none⟩] (some [2, 3, 4, 6, 41, 42, 43]))
      (.seq (.cond (.t 43)
        .skip
        (.exit 1))
      (.seq (.block 2 (.seq (.region [⟨(some 44), .mv (.t 42), none⟩,
          ⟨(some 7), .mv (.t 44), none⟩] (some [2, 3, 4, 6, 7, 41, 42]))
        (.seq (.region [⟨(some 46), .fA 1 (.t 2), none⟩,
          ⟨(some 47), .ld none (.t 46), none⟩,
          ⟨(some 48), .mv (.t 7), none⟩,
          ⟨(some 49), .ixA 2 (.t 47) (.t 48), none⟩,
          ⟨(some 50), .ld (some 2) (.t 49), none⟩,
          ⟨(some 51), .fA 1 (.t 3), none⟩,
          ⟨(some 52), .ld none (.t 51), none⟩,
          ⟨(some 53), .mv (.t 7), none⟩,
          ⟨(some 54), .ixA 2 (.t 52) (.t 53), none⟩,
          ⟨(some 55), .ld (some 2) (.t 54), none⟩,
          ⟨(some 56), .callF 125 [(.t 50), (.t 55)], none⟩,
          ⟨(some 45), .mv (.t 56), none⟩,
          ⟨(some 57), .ext (.t 45) 0, none⟩,
          ⟨(some 58), .ext (.t 45) 1, none⟩,
          ⟨(some 8), .alloc [.int .i64 0, .nils], none⟩,
          ⟨none, .st 2 (.t 8) (.t 57), none⟩,
          ⟨(some 9), .mv (.t 58), none⟩] (some [2, 3, 4, 6, 8, 9, 41, 42]))
        (.seq (.seq (.region [⟨(some 59), .mv (.t 9), none⟩,
          ⟨(some 60), .un .not (.t 59), none⟩] (some [2, 3, 4, 6, 8, 41, 42, 60]))
        (.cond (.t 60)
          (.seq (.region [⟨(some 61), .ld (some 2) (.t 2), none⟩,
            ⟨none, .st 2 (.t 4) (.t 61), none⟩,
            ⟨(some 5), .mv (.c (.bool false)), none⟩] (some [4, 5]))
          .ret)
          .skip))
        (.region [⟨(some 62), .fA 1 (.t 6), none⟩,
          ⟨(some 63), .ld none (.t 62), none⟩,
          ⟨(some 64), .ld (some 2) (.t 8), none⟩,
          ⟨(some 65), .buildSl 2 1 [.int .i64 0, .nils] [(0, (.t 64))], none⟩,
          ⟨(some 66), .app 2 32 (.t 63) (.t 65), none⟩,
          ⟨(some 67), .fA 1 (.t 6), none⟩,
          ⟨none, .st 1 (.t 67) (.t 66), none⟩] (some [2, 3, 4, 6, 41, 42]))))))
      (.region [⟨(some 68), .bin .add (.t 42) (.c (.int .i64 1)), none⟩,
        ⟨(some 42), .mv (.t 68), none⟩] (some [2, 3, 4, 6, 41, 42]))))))))
  (.seq (.region [⟨(some 69), .ld (some 2) (.t 6), none⟩,
    ⟨none, .st 2 (.t 4) (.t 69), none⟩,
    ⟨(some 5), .mv (.c (.bool true)), none⟩] (some [4, 5]))
  .ret))))), [.cell 4 (some 2), .t 5]⟩
theorem value_join_ok : cFn Tryz.prog (kps [[2, 3, 4], [2, 3, 4, 10], [4, 5], [2, 3, 4, 15], [4, 5], [2, 3, 4, 20], [4, 5], [2, 3, 4, 6], [2, 3, 4, 6, 41, 42], [2, 3, 4, 6, 41, 42, 43], [2, 3, 4, 6, 7, 41, 42], [2, 3, 4, 6, 8, 9, 41, 42], [2, 3, 4, 6, 8, 41, 42, 60], [4, 5], [2, 3, 4, 6, 41, 42], [2, 3, 4, 6, 41, 42], [4, 5]]) [] 125 = some value_join_c := by kernel_rfl

abbrev value_deep : Nat := 126
def value_deep_c : MFn :=
  ⟨39, (.seq (.region [⟨(some 2), .box (.t 0), none⟩,
    ⟨(some 3), .box (.t 1), none⟩,
    ⟨(some 4), .mv (.c (.bool false)), none⟩] (some [2, 3]))
  (.seq (.seq (.region [⟨(some 5), .ld none (.t 3), none⟩,
    ⟨(some 6), .bin .lss (.t 5) (.c (.int .i64 1)), none⟩] (some [2, 3, 6]))
  (.cond (.t 6)
    (.seq (.region [⟨(some 4), .mv (.c (.bool false)), none⟩] (some [4]))
    .ret)
    .skip))
  (.seq (.seq (.region [⟨(some 7), .fA 0 (.t 2), none⟩,
    ⟨(some 8), .ld none (.t 7), none⟩] (some [2, 3, 8]))
  (.block 0 (.seq (.seq (.region [⟨(some 10), .bin .eql (.t 8) (.c (.int .i64 1)), none⟩,
      ⟨(some 9), .mv (.t 10), none⟩] (some [2, 3, 8, 9]))
    (.cond (.t 9)
      .skip
      (.region [⟨(some 11), .bin .eql (.t 8) (.c (.int .i64 2)), none⟩,
        ⟨(some 9), .mv (.t 11), none⟩] (some [2, 3, 8, 9]))))
    (.cond (.t 9)
      (.seq (.region [⟨(some 12), .fA 1 (.t 2), none⟩,
        ⟨(some 13), .ld none (.t 12), none⟩,
        ⟨(some 14), .lenS (.t 13), none⟩,
        ⟨(some 15), .bin .eql (.t 14) (.c (.int .i64 0)), none⟩,
        ⟨(some 4), .mv (.t 15), none⟩] (some [4]))
      .ret)
      (.seq (.region [⟨(some 17), .bin .eql (.t 8) (.c (.int .i64 3)), none⟩,
        ⟨(some 16), .mv (.t 17), none⟩] (some [2, 3, 8, 16]))
      (.cond (.t 16)
        (.seq (.region [⟨(some 18), .fA 1 (.t 2), none⟩,
          ⟨(some 19), .ld none (.t 18), none⟩,
          ⟨(some 20), .lenS (.t 19), none⟩,
          ⟨(some 21), .bin .lss (.t 20) (.c (.int .i64 2)), none⟩,
          ⟨(some 22), .mv (.t 21), none⟩,
          ⟨(some 23), .fA 1 (.t 2), (some (22, false))⟩,
          ⟨(some 24), .ld none (.t 23), (some (22, false))⟩,
          ⟨(some 25), .lenS (.t 24), (some (22, false))⟩,
          ⟨(some 26), .bin .gtr (.t 25) (.c (.int .i64 4)), (some (22, false))⟩,
          ⟨(some 27), .pick (.t 22) (.c (.bool true)) (.t 26), none⟩] (some [2, 3, 27]))
        (.cond (.t 27)
          (.seq (.region [⟨(some 4), .mv (.c (.bool false)), none⟩] (some [4]))
          .ret)
          .skip))
        (.seq (.region [⟨(some 29), .bin .eql (.t 8) (.c (.int .i64 4)), none⟩,
          ⟨(some 28), .mv (.t 29), none⟩] (some [2, 3, 28]))
        (.cond (.t 28)
          (.seq (.region [⟨(some 30), .fA 1 (.t 2), none⟩,
            ⟨(some 31), .ld none (.t 30), none⟩,
            ⟨(some 32), .lenS (.t 31), none⟩,
            ⟨(some 33), .bin .neq (.t 32) (.c (.int .i64 1)), none⟩] (some [2, 3, 33]))
          (.cond (.t 33)
            (.seq (.region [⟨(some 4), .mv (.c (.bool false)), none⟩] (some [4]))
            .ret)
            .skip))
          (.seq (.region [⟨(some 4), .mv (.c (.bool false)), none⟩] (some [4]))
          .ret)))))))))
  (.seq (.region [⟨(some 34), .fA 1 (.t 2), none⟩,
    ⟨(some 35), .ld none (.t 34), none⟩,
    ⟨(some 36), .mkF 144 [(.t 3)], none⟩,
    ⟨(some 37), .call 143 [(.t 35), (.t 36)], none⟩,
    ⟨(some 38), .un .not (.t 37), none⟩,
    ⟨(some 4), .mv (.t 38), none⟩] (some [4]))
  .ret)))), [.t 4]⟩
theorem value_deep_ok : cFn Tryz.prog (kps [[2, 3], [2, 3, 6], [4], [2, 3, 8], [4], [2, 3, 8, 9], [2, 3, 8, 9], [4], [2, 3, 8, 16], [2, 3, 27], [4], [2, 3, 28], [2, 3, 33], [4], [4]]) [] 126 = some value_deep_c := by kernel_rfl

abbrev cmp_isNaN_int : Nat := 128
def cmp_isNaN_int_c : MFn :=
  ⟨6, (.seq (.region [⟨(some 2), .mv (.c (.bool false)), none⟩] (some [0]))
  (.seq (.region [⟨(some 3), .mv (.t 0), none⟩,
    ⟨(some 4), .mv (.t 0), none⟩,
    ⟨(some 5), .bin .neq (.t 3) (.t 4), none⟩,
    ⟨(some 2), .mv (.t 5), none⟩] (some [2]))
  .ret)), [.t 2]⟩
theorem cmp_isNaN_int_ok : cFn Tryz.prog (kps [[0], [2]]) [] 128 = some cmp_isNaN_int_c := by kernel_rfl

abbrev ref03_counted : Nat := 130
def ref03_counted_c : MFn :=
  ⟨27, (.seq (.region [⟨(some 2), .box (.t 0), none⟩,
    ⟨(some 4), .mv (.c (.int .i64 0)), none⟩] (some [1, 2]))
  (.seq (.region [⟨(some 6), .mv (.t 1), none⟩,
    ⟨(some 7), .bin .add (.t 6) (.c (.int .i64 1)), none⟩,
    ⟨(some 1), .mv (.t 7), none⟩] (some [1, 2]))
  (.seq (.seq (.region [⟨(some 5), .mv (.c (.int .i64 0)), none⟩] (some [1, 2, 5]))
  (.block 0 (.loop (.seq (.seq (.region [⟨(some 8), .mv (.t 5), none⟩,
        ⟨(some 9), .fA 2 (.t 2), none⟩,
        ⟨(some 10), .ld none (.t 9), none⟩,
        ⟨(some 11), .lenS (.t 10), none⟩,
        ⟨(some 12), .bin .lss (.t 8) (.t 11), none⟩,
        ⟨(some 13), .mv (.t 12), none⟩,
        ⟨(some 14), .mv (.t 1), (some (13, true))⟩,
        ⟨(some 15), .bin .leq (.t 14) (.c (.int .i64 1000)), (some (13, true))⟩,
        ⟨(some 16), .pick (.t 13) (.t 15) (.c (.bool false)), none⟩] (some [1, 2, 5, 16]))
      (.cond (.t 16)
        .skip
        (.exit 0)))
      (.seq (.block 1 (.region [⟨(some 19), .fA 2 (.t 2), none⟩,
          ⟨(some 20), .ld none (.t 19), none⟩,
          ⟨(some 21), .mv (.t 5), none⟩,
          ⟨(some 22), .ixA 3 (.t 20) (.t 21), none⟩,
          ⟨(some 23), .ld (some 3) (.t 22), none⟩,
          ⟨(some 24), .mv (.t 1), none⟩,
          ⟨(some 25), .call 130 [(.t 23), (.t 24)], none⟩,
          ⟨(some 1), .mv (.t 25), none⟩] (some [1, 2, 5])))
      (.region [⟨(some 17), .mv (.t 5), none⟩,
        ⟨(some 18), .bin .add (.t 17) (.c (.int .i64 1)), none⟩,
        ⟨(some 5), .mv (.t 18), none⟩] (some [1, 2, 5])))))))
  (.seq (.region [⟨(some 26), .mv (.t 1), none⟩,
    ⟨(some 4), .mv (.t 26), none⟩] (some [4]))
  .ret)))), [.t 4]⟩
theorem ref03_counted_ok : cFn Tryz.prog (kps [[1, 2], [1, 2], [1, 2, 5], [1, 2, 5, 16], [1, 2, 5], [1, 2, 5], [4]]) [] 130 = some ref03_counted_c := by kernel_rfl

abbrev ref03_of : Nat := 131
def ref03_of_c : MFn :=
  ⟨90, (.seq (.region [⟨(some 2), .box (.t 0), none⟩,
    ⟨(some 3), .box (.t 1), none⟩,
    ⟨(some 4), .mv (.c (.bool false)), none⟩] (some [2, 3]))
  (.seq (.region [⟨(some 8), .fA 2 (.t 3), none⟩,
    ⟨(some 9), .ld none (.t 8), none⟩,
    ⟨(some 10), .lenS (.t 9), none⟩,
    ⟨(some 5), .mv (.t 10), none⟩] (some [2, 3, 5]))
  (.seq (.seq (.region [⟨(some 11), .fA 0 (.t 3), none⟩,
    ⟨(some 12), .ld none (.t 11), none⟩,
    ⟨(some 13), .fA 0 (.t 2), none⟩,
    ⟨(some 14), .ld none (.t 13), none⟩,
    ⟨(some 15), .bin .neq (.t 12) (.t 14), none⟩] (some [2, 3, 5, 15]))
  (.cond (.t 15)
    (.seq (.region [⟨(some 4), .mv (.c (.bool false)), none⟩] (some [4]))
    .ret)
    .skip))
  (.seq (.seq (.region [⟨(some 16), .fA 0 (.t 2), none⟩,
    ⟨(some 17), .ld none (.t 16), none⟩] (some [2, 3, 5, 17]))
  (.block 0 (.seq (.region [⟨(some 26), .bin .eql (.t 17) (.c (.int .i64 1)), none⟩,
      ⟨(some 25), .mv (.t 26), none⟩] (some [2, 3, 5, 17, 25]))
    (.cond (.t 25)
      (.seq (.region [⟨(some 27), .mv (.t 5), none⟩,
        ⟨(some 28), .bin .eql (.t 27) (.c (.int .i64 0)), none⟩,
        ⟨(some 29), .mv (.t 28), none⟩,
        ⟨(some 30), .fA 1 (.t 3), (some (29, true))⟩,
        ⟨(some 31), .ld none (.t 30), (some (29, true))⟩,
        ⟨(some 32), .bin .eql (.t 31) (.c (.int .i64 0)), (some (29, true))⟩,
        ⟨(some 33), .mv (.t 32), (some (29, true))⟩,
        ⟨(some 34), .fA 1 (.t 3), (some (33, false))⟩,
        ⟨(some 35), .ld none (.t 34), (some (33, false))⟩,
        ⟨(some 36), .bin .eql (.t 35) (.c (.int .i64 1)), (some (33, false))⟩,
        ⟨(some 37), .pick (.t 33) (.c (.bool true)) (.t 36), (some (29, true))⟩,
        ⟨(some 38), .pick (.t 29) (.t 37) (.c (.bool false)), none⟩,
        ⟨(some 4), .mv (.t 38), none⟩] (some [4]))
      .ret)
      (.seq (.region [⟨(some 40), .bin .eql (.t 17) (.c (.int .i64 2)), none⟩,
        ⟨(some 39), .mv (.t 40), none⟩] (some [2, 3, 5, 17, 39]))
      (.cond (.t 39)
        (.seq (.region [⟨(some 41), .mv (.t 5), none⟩,
          ⟨(some 42), .bin .eql (.t 41) (.c (.int .i64 0)), none⟩,
          ⟨(some 43), .mv (.t 42), none⟩,
          ⟨(some 44), .fA 1 (.t 3), (some (43, true))⟩,
          ⟨(some 45), .ld none (.t 44), (some (43, true))⟩,
          ⟨(some 46), .bin .geq (.t 45) (.c (.int .i64 (-2147483648))), (some (43, true))⟩,
          ⟨(some 47), .pick (.t 43) (.t 46) (.c (.bool false)), none⟩,
          ⟨(some 48), .mv (.t 47), none⟩,
          ⟨(some 49), .fA 1 (.t 3), (some (48, true))⟩,
          ⟨(some 50), .ld none (.t 49), (some (48, true))⟩,
          ⟨(some 51), .bin .leq (.t 50) (.c (.int .i64 2147483647)), (some (48, true))⟩,
          ⟨(some 52), .pick (.t 48) (.t 51) (.c (.bool false)), none⟩,
          ⟨(some 4), .mv (.t 52), none⟩] (some [4]))
        .ret)
        (.seq (.region [⟨(some 54), .bin .eql (.t 17) (.c (.int .i64 3)), none⟩,
          ⟨(some 53), .mv (.t 54), none⟩] (some [2, 3, 5, 53]))
        (.cond (.t 53)
          (.seq (.region [⟨(some 55), .fA 1 (.t 3), none⟩,
            ⟨(some 56), .ld none (.t 55), none⟩,
            ⟨(some 57), .bin .neq (.t 56) (.c (.int .i64 0)), none⟩,
            ⟨(some 58), .mv (.t 57), none⟩,
            ⟨(some 59), .mv (.t 5), (some (58, false))⟩,
            ⟨(some 60), .fA 1 (.t 2), (some (58, false))⟩,
            ⟨(some 61), .ld none (.t 60), (some (58, false))⟩,
            ⟨(some 62), .lenS (.t 61), (some (58, false))⟩,
            ⟨(some 63), .bin .neq (.t 59) (.t 62), (some (58, false))⟩,
            ⟨(some 64), .pick (.t 58) (.c (.bool true)) (.t 63), none⟩] (some [2, 3, 5, 64]))
          (.cond (.t 64)
            (.seq (.region [⟨(some 4), .mv (.c (.bool false)), none⟩] (some [4]))
            .ret)
            .skip))
          (.seq (.region [⟨(some 18), .fA 1 (.t 3), none⟩,
            ⟨(some 19), .ld none (.t 18), none⟩,
            ⟨(some 20), .bin .neq (.t 19) (.c (.int .i64 0)), none⟩,
            ⟨(some 21), .mv (.t 20), none⟩,
            ⟨(some 22), .mv (.t 5), (some (21, false))⟩,
            ⟨(some 23), .bin .gtr (.t 22) (.c (.int .i64 32)), (some (21, false))⟩,
            ⟨(some 24), .pick (.t 21) (.c (.bool true)) (.t 23), none⟩] (some [2, 3, 5, 24]))
          (.cond (.t 24)
            (.seq (.region [⟨(some 4), .mv (.c (.bool false)), none⟩] (some [4]))
            .ret)
            .skip))))))))))
  (.seq (.seq (.region [⟨(some 6), .mv (.c (.int .i64 0)), none⟩] (some [2, 3, 5, 6]))
  (.block 1 (.loop (.seq (.seq (.region [⟨(some 65), .mv (.t 6), none⟩,
        ⟨(some 66), .mv (.t 5), none⟩,
        ⟨(some 67), .bin .lss (.t 65) (.t 66), none⟩] (some [2, 3, 5, 6, 67]))
      (.cond (.t 67)
        .skip
        (.exit 1)))
      (.seq (.block 2 (.seq (.region [⟨(some 70), .fA 1 (.t 2), none⟩,
          ⟨(some 71), .ld none (.t 70), none⟩,
          ⟨(some 72), .ixA 2 (.t 71) (.c (.int .i64 0)), none⟩,
          ⟨(some 73), .ld (some 2) (.t 72), none⟩,
          ⟨(some 7), .alloc [.int .i64 0, .nils], none⟩,
          ⟨none, .st 2 (.t 7) (.t 73), none⟩] (some [2, 3, 5, 6, 7]))
        (.seq (.seq (.region [⟨(some 74), .fA 0 (.t 2), none⟩,
          ⟨(some 75), .ld none (.t 74), none⟩,
          ⟨(some 76), .bin .eql (.t 75) (.c (.int .i64 3)), none⟩] (some [2, 3, 5, 6, 7, 76]))
        (.cond (.t 76)
          (.region [⟨(some 77), .fA 1 (.t 2), none⟩,
            ⟨(some 78), .ld none (.t 77), none⟩,
            ⟨(some 79), .mv (.t 6), none⟩,
            ⟨(some 80), .ixA 2 (.t 78) (.t 79), none⟩,
            ⟨(some 81), .ld (some 2) (.t 80), none⟩,
            ⟨none, .st 2 (.t 7) (.t 81), none⟩] (some [2, 3, 5, 6, 7]))
          .skip))
        (.seq (.region [⟨(some 82), .ld (some 2) (.t 7), none⟩,
          ⟨(some 83), .fA 2 (.t 3), none⟩,
          ⟨(some 84), .ld none (.t 83), none⟩,
          ⟨(some 85), .mv (.t 6), none⟩,
          ⟨(some 86), .ixA 3 (.t 84) (.t 85), none⟩,
          ⟨(some 87), .ld (some 3) (.t 86), none⟩,
          ⟨(some 88), .callF 131 [(.t 82), (.t 87)], none⟩,
          ⟨(some 89), .un .not (.t 88), none⟩] (some [2, 3, 5, 6, 89]))
        (.cond (.t 89)
          (.seq (.region [⟨(some 4), .mv (.c (.bool false)), none⟩] (some [4]))
          .ret)
          .skip)))))
      (.region [⟨(some 68), .mv (.t 6), none⟩,
        ⟨(some 69), .bin .add (.t 68) (.c (.int .i64 1)), none⟩,
        ⟨(some 6), .mv (.t 69), none⟩] (some [2, 3, 5, 6])))))))
  (.seq (.region [⟨(some 4), .mv (.c (.bool true)), none⟩] (some [4]))
  .ret)))))), [.t 4]⟩
theorem ref03_of_ok : cFn Tryz.prog (kps [[2, 3], [2, 3, 5], [2, 3, 5, 15], [4], [2, 3, 5, 17], [2, 3, 5, 24], [4], [2, 3, 5, 17, 25], [4], [2, 3, 5, 17, 39], [4], [2, 3, 5, 53], [2, 3, 5, 64], [4], [2, 3, 5, 6], [2, 3, 5, 6, 67], [2, 3, 5, 6], [2, 3, 5, 6, 7], [2, 3, 5, 6, 7, 76], [2, 3, 5, 6, 7], [2, 3, 5, 6, 89], [4], [4]]) [] 131 = some ref03_of_c := by kernel_rfl

abbrev ref03_meet : Nat := 132
def ref03_meet_c : MFn :=
  ⟨67, (.seq (.region [⟨(some 2), .box (.t 0), none⟩,
    ⟨(some 3), .box (.t 1), none⟩,
    ⟨(some 4), .alloc [.int .i64 0, .nils], none⟩,
    ⟨(some 5), .mv (.c (.bool false)), none⟩] (some [2, 3, 4]))
  (.seq (.seq (.region [⟨(some 10), .fA 0 (.t 2), none⟩,
    ⟨(some 11), .ld none (.t 10), none⟩,
    ⟨(some 12), .bin .eql (.t 11) (.c (.int .i64 0)), none⟩] (some [2, 3, 4, 12]))
  (.cond (.t 12)
    (.seq (.region [⟨(some 13), .ld (some 2) (.t 3), none⟩,
      ⟨none, .st 2 (.t 4) (.t 13), none⟩,
      ⟨(some 5), .mv (.c (.bool true)), none⟩] (some [4, 5]))
    .ret)
    .skip))
  (.seq (.seq (.region [⟨(some 14), .fA 0 (.t 3), none⟩,
    ⟨(some 15), .ld none (.t 14), none⟩,
    ⟨(some 16), .bin .eql (.t 15) (.c (.int .i64 0)), none⟩] (some [2, 3, 4, 16]))
  (.cond (.t 16)
    (.seq (.region [⟨(some 17), .ld (some 2) (.t 2), none⟩,
      ⟨none, .st 2 (.t 4) (.t 17), none⟩,
      ⟨(some 5), .mv (.c (.bool true)), none⟩] (some [4, 5]))
    .ret)
    .skip))
  (.seq (.seq (.region [⟨(some 18), .fA 0 (.t 2), none⟩,
    ⟨(some 19), .ld none (.t 18), none⟩,
    ⟨(some 20), .fA 0 (.t 3), none⟩,
    ⟨(some 21), .ld none (.t 20), none⟩,
    ⟨(some 22), .bin .neq (.t 19) (.t 21), none⟩,
    ⟨(some 23), .mv (.t 22), none⟩,
    ⟨(some 24), .fA 1 (.t 2), (some (23, false))⟩,
    ⟨(some 25), .ld none (.t 24), (some (23, false))⟩,
    ⟨(some 26), .lenS (.t 25), (some (23, false))⟩,
    ⟨(some 27), .fA 1 (.t 3), (some (23, false))⟩,
    ⟨(some 28), .ld none (.t 27), (some (23, false))⟩,
    ⟨(some 29), .lenS (.t 28), (some (23, false))⟩,
    ⟨(some 30), .bin .neq (.t 26) (.t 29), (some (23, false))⟩,
    ⟨(some 31), .pick (.t 23) (.c (.bool true)) (.t 30), none⟩] (some [2, 3, 4, 31]))
  (.cond (.t 31)
    (.seq (.region [⟨(some 32), .build [.int .i64 0, .nils] [], none⟩,
      ⟨none, .st 2 (.t 4) (.t 32), none⟩,
      ⟨(some 5), .mv (.c (.bool false)), none⟩] (some [4, 5]))
    .ret)
    .skip))
  (.seq (.region [⟨(some 33), .fA 0 (.t 2), none⟩,
    ⟨(some 34), .ld none (.t 33), none⟩,
    ⟨(some 35), .build [.int .i64 0, .nils] [(0, 1, (.t 34))], none⟩,
    ⟨(some 6), .alloc [.int .i64 0, .nils], none⟩,
    ⟨none, .st 2 (.t 6) (.t 35), none⟩] (some [2, 3, 4, 6]))
  (.seq (.seq (.region [⟨(some 7), .mv (.c (.int .i64 0)), none⟩] (some [2, 3, 4, 6, 7]))
  (.block 0 (.loop (.seq (.seq (.region [⟨(some 36), .mv (.t 7), none⟩,
        ⟨(some 37), .fA 1 (.t 2), none⟩,
        ⟨(some 38), .ld none (.t 37), none⟩,
        ⟨(some 39), .lenS (.t 38), none⟩,
        ⟨(some 40), .bin .lss (.t 36) (.t 39), none⟩] (some [2, 3, 4, 6, 7, 40]))
      (.cond (.t 40)
        .skip
        (.exit 0)))
      (.seq (.block 1 (.seq (.region [⟨(some 44), .fA 1 (.t 2), none⟩,
          ⟨(some 45), .ld none (.t 44), none⟩,
          ⟨(some 46), .mv (.t 7), none⟩,
          ⟨(some 47), .ixA 2 (.t 45) (.t 46), none⟩,
          ⟨(some 48), .ld (some 2) (.t 47), none⟩,
          ⟨(some 49), .fA 1 (.t 3), none⟩,
          ⟨(some 50), .ld none (.t 49), none⟩,
          ⟨(some 51), .mv (.t 7), none⟩,
          ⟨(some 52), .ixA 2 (.t 50) (.t 51), none⟩,
          ⟨(some 53), .ld (some 2) (.t 52), none⟩,
          ⟨(some 54), .callF 132 [(.t 48), (.t 53)], none⟩,
          ⟨(some 43), .mv (.t 54), none⟩,
          ⟨(some 55), .ext (.t 43) 0, none⟩,
          ⟨(some 56), .ext (.t 43) 1, none⟩,
          ⟨(some 8), .alloc [.int .i64 0, .nils], none⟩,
          ⟨none, .st 2 (.t 8) (.t 55), none⟩,
          ⟨(some 9), .mv (.t 56), none⟩] (some [2, 3, 4, 6, 7, 8, 9]))
        (.seq (.seq (.region [⟨(some 57), .mv (.t 9), none⟩,
          ⟨(some 58), .un .not (.t 57), none⟩] (some [2, 3, 4, 6, 7, 8, 58]))
        (.cond (.t 58)
          (.seq (.region [⟨(some 59), .build [.int .i64 0, .nils] [], none⟩,
            ⟨none, .st 2 (.t 4) (.t 59), none⟩,
            ⟨(some 5), .mv (.c (.bool false)), none⟩] (some [4, 5]))
          .ret)
          .skip))
        (.region [⟨(some 60), .fA 1 (.t 6), none⟩,
          ⟨(some 61), .ld none (.t 60), none⟩,
          ⟨(some 62), .ld (some 2) (.t 8), none⟩,
          ⟨(some 63), .buildSl 2 1 [.int .i64 0, .nils] [(0, (.t 62))], none⟩,
          ⟨(some 64), .app 2 32 (.t 61) (.t 63), none⟩,
          ⟨(some 65), .fA 1 (.t 6), none⟩,
          ⟨none, .st 1 (.t 65) (.t 64), none⟩] (some [2, 3, 4, 6, 7])))))
      (.region [⟨(some 41), .mv (.t 7), none⟩,
        ⟨(some 42), .bin .add (.t 41) (.c (.int .i64 1)), none⟩,
        ⟨(some 7), .mv (.t 42), none⟩] (some [2, 3, 4, 6, 7])))))))
  (.seq (.region [⟨(some 66), .ld (some 2) (.t 6), none⟩,
    ⟨none, .st 2 (.t 4) (.t 66), none⟩,
    ⟨(some 5), .mv (.c (.bool true)), none⟩] (some [4, 5]))
  .ret))))))), [.cell 4 (some 2), .t 5]⟩
theorem ref03_meet_ok : cFn Tryz.prog (kps [[2, 3, 4], [2, 3, 4, 12], [4, 5], [2, 3, 4, 16], [4, 5], [2, 3, 4, 31], [4, 5], [2, 3, 4, 6], [2, 3, 4, 6, 7], [2, 3, 4, 6, 7, 40], [2, 3, 4, 6, 7], [2, 3, 4, 6, 7, 8, 9], [2, 3, 4, 6, 7, 8, 58], [4, 5], [2, 3, 4, 6, 7], [4, 5]]) [] 132 = some ref03_meet_c := by kernel_rfl

abbrev slices_EqualFunc_Type_Value_Type_Value : Nat := 140
def slices_EqualFunc_Type_Value_Type_Value_c : MFn :=
  ⟨32, (.seq (.region [⟨(some 6), .mv (.c (.bool false)), none⟩] (some [0, 1, 2]))
  (.seq (.seq (.region [⟨(some 10), .mv (.t 0), none⟩,
    ⟨(some 11), .lenS (.t 10), none⟩,
    ⟨(some 12), .mv (.t 1), none⟩,
    ⟨(some 13), .lenS (.t 12), none⟩,
    ⟨(some 14), .bin .neq (.t 11) (.t 13), none⟩] (some [0, 1, 2, 14]))
  (.cond (.t 14)
    (.seq (.region [⟨(some 6), .mv (.c (.bool false)), none⟩] (some [6]))
    .ret)
    .skip))
  (.seq (.seq (.region [⟨(some 15), .mv (.t 0), none⟩,
    ⟨(some 16), .lenS (.t 15), none⟩,
    ⟨(some 17), .mv (.c (.int .i64 0)), none⟩] (some [1, 2, 15, 16, 17]))
  (.block 0 (.loop (.seq (.region [⟨(some 18), .bin .lss (.t 17) (.t 16), none⟩] (some [1, 2, 15, 16, 17, 18]))
      (.seq (.cond (.t 18)
        .skip
        (.exit 0))
      (.seq (.block 1 (.seq (.region [⟨(some 19), .mv (.t 17), none⟩,
          ⟨(some 20), .ixA 2 (.t 15) (.t 17), none⟩,
          ⟨(some 21), .ld (some 2) (.t 20), none⟩,
          ⟨(some 8), .alloc [.int .i64 0, .nils], none⟩,
          ⟨(some 7), .mv (.t 19), none⟩,
          ⟨none, .st 2 (.t 8) (.t 21), none⟩] (some [1, 2, 7, 8, 15, 16, 17]))
        (.seq (.region [⟨(some 22), .mv (.t 1), none⟩,
          ⟨(some 23), .mv (.t 7), none⟩,
          ⟨(some 24), .ixA 3 (.t 22) (.t 23), none⟩,
          ⟨(some 25), .ld (some 3) (.t 24), none⟩,
          ⟨(some 9), .alloc [.int .i64 0, .int .i64 0, .nils], none⟩,
          ⟨none, .st 3 (.t 9) (.t 25), none⟩] (some [1, 2, 8, 9, 15, 16, 17]))
        (.seq (.region [⟨(some 26), .mv (.t 2), none⟩,
          ⟨(some 27), .ld (some 2) (.t 8), none⟩,
          ⟨(some 28), .ld (some 3) (.t 9), none⟩,
          ⟨(some 29), .callV (.t 26) [(.t 27), (.t 28)], none⟩,
          ⟨(some 30), .un .not (.t 29), none⟩] (some [1, 2, 15, 16, 17, 30]))
        (.cond (.t 30)
          (.seq (.region [⟨(some 6), .mv (.c (.bool false)), none⟩] (some [6]))
          .ret)
          .skip)))))
      (.region [⟨(some 31), .bin .add (.t 17) (.c (.int .i64 1)), none⟩,
        ⟨(some 17), .mv (.t 31), none⟩] (some [1, 2, 15, 16, 17]))))))))
  (.seq (.region [⟨(some 6), .mv (.c (.bool true)), none⟩] (some [6]))
  .ret)))), [.t 6]⟩
theorem slices_EqualFunc_Type_Value_Type_Value_ok : cFn Tryz.prog (kps [[0, 1, 2], [0, 1, 2, 14], [6], [1, 2, 15, 16, 17], [1, 2, 15, 16, 17, 18], [1, 2, 7, 8, 15, 16, 17], [1, 2, 8, 9, 15, 16, 17], [1, 2, 15, 16, 17, 30], [6], [1, 2, 15, 16, 17], [6]]) [] 140 = some slices_EqualFunc_Type_Value_Type_Value_c := by kernel_rfl

abbrev slices_ContainsFunc_Value_Value : Nat := 141
def slices_ContainsFunc_Value_Value_c : MFn :=
  ⟨9, (.seq (.region [⟨(some 4), .mv (.c (.bool false)), none⟩] (some [0, 1]))
  (.seq (.region [⟨(some 5), .mv (.t 0), none⟩,
    ⟨(some 6), .mv (.t 1), none⟩,
    ⟨(some 7), .call 150 [(.t 5), (.t 6)], none⟩,
    ⟨(some 8), .bin .geq (.t 7) (.c (.int .i64 0)), none⟩,
    ⟨(some 4), .mv (.t 8), none⟩] (some [4]))
  .ret)), [.t 4]⟩
theorem slices_ContainsFunc_Value_Value_ok : cFn Tryz.prog (kps [[0, 1], [4]]) [] 141 = some slices_ContainsFunc_Value_Value_c := by kernel_rfl

abbrev value_has_1 : Nat := 142
def value_has_1_c : MFn :=
  ⟨11, (.seq (.region [⟨(some 2), .box (.t 0), none⟩,
    ⟨(some 3), .mv (.c (.bool false)), none⟩] (some [1, 2]))
  (.seq (.region [⟨(some 4), .fA 1 (.t 1), none⟩,
    ⟨(some 5), .ld none (.t 4), none⟩,
    ⟨(some 6), .ixA 2 (.t 5) (.c (.int .i64 0)), none⟩,
    ⟨(some 7), .ld (some 2) (.t 6), none⟩,
    ⟨(some 8), .ld (some 3) (.t 2), none⟩,
    ⟨(some 9), .callF 124 [(.t 7), (.t 8)], none⟩,
    ⟨(some 10), .un .not (.t 9), none⟩,
    ⟨(some 3), .mv (.t 10), none⟩] (some [3]))
  .ret)), [.t 3]⟩
theorem value_has_1_ok : cFn Tryz.prog (kps [[1, 2], [3]]) [] 142 = some value_has_1_c := by kernel_rfl

abbrev slices_ContainsFunc_Type_Type : Nat := 143
def slices_ContainsFunc_Type_Type_c : MFn :=
  ⟨9, (.seq (.region [⟨(some 4), .mv (.c (.bool false)), none⟩] (some [0, 1]))
  (.seq (.region [⟨(some 5), .mv (.t 0), none⟩,
    ⟨(some 6), .mv (.t 1), none⟩,
    ⟨(some 7), .call 151 [(.t 5), (.t 6)], none⟩,
    ⟨(some 8), .bin .geq (.t 7) (.c (.int .i64 0)), none⟩,
    ⟨(some 4), .mv (.t 8), none⟩] (some [4]))
  .ret)), [.t 4]⟩
theorem slices_ContainsFunc_Type_Type_ok : cFn Tryz.prog (kps [[0, 1], [4]]) [] 143 = some slices_ContainsFunc_Type_Type_c := by kernel_rfl

abbrev value_deep_1 : Nat := 144
def value_deep_1_c : MFn :=
  ⟨9, (.seq (.region [⟨(some 2), .box (.t 0), none⟩,
    ⟨(some 3), .mv (.c (.bool false)), none⟩] (some [1, 2]))
  (.seq (.region [⟨(some 4), .ld (some 2) (.t 2), none⟩,
    ⟨(some 5), .ld none (.t 1), none⟩,
    ⟨(some 6), .bin .sub (.t 5) (.c (.int .i64 1)), none⟩,
    ⟨(some 7), .call 126 [(.t 4), (.t 6)], none⟩,
    ⟨(some 8), .un .not (.t 7), none⟩,
    ⟨(some 3), .mv (.t 8), none⟩] (some [3]))
  .ret)), [.t 3]⟩
theorem value_deep_1_ok : cFn Tryz.prog (kps [[1, 2], [3]]) [] 144 = some value_deep_1_c := by kernel_rfl

abbrev slices_IndexFunc_Value_Value : Nat := 150
def slices_IndexFunc_Value_Value_c : MFn :=
  ⟨19, (.seq (.region [⟨(some 4), .mv (.c (.int .i64 0)), none⟩] (some [0, 1]))
  (.seq (.seq (.region [⟨(some 6), .mv (.t 0), none⟩,
    ⟨(some 7), .lenS (.t 6), none⟩,
    ⟨(some 8), .mv (.c (.int .i64 0)), none⟩] (some [0, 1, 7, 8]))
  (.block 0 (.loop (.seq (.region [⟨(some 9), .bin .lss (.t 8) (.t 7), none⟩] (some [0, 1, 7, 8, 9]))
      (.seq (.cond (.t 9)
        .skip
        (.exit 0))
      (.seq (.block 1 (.seq (.region [⟨(some 10), .mv (.t 8), none⟩,
          ⟨(some 5), .mv (.t 10), none⟩] (some [0, 1, 5, 7, 8]))
        (.seq (.region [⟨(some 11), .mv (.t 1), none⟩,
          ⟨(some 12), .mv (.t 0), none⟩,
          ⟨(some 13), .mv (.t 5), none⟩,
          ⟨(some 14), .ixA 3 (.t 12) (.t 13), none⟩,
          ⟨(some 15), .ld (some 3) (.t 14), none⟩,
          ⟨(some 16), .callV (.t 11) [(.t 15)], none⟩] (some [0, 1, 5, 7, 8, 16]))
        (.cond (.t 16)
          (.seq (.region [⟨(some 17), .mv (.t 5), none⟩,
            ⟨(some 4), .mv (.t 17), none⟩] (some [4]))
          .ret)
          .skip))))
      (.region [⟨(some 18), .bin .add (.t 8) (.c (.int .i64 1)), none⟩,
        ⟨(some 8), .mv (.t 18), none⟩] (some [0, 1, 7, 8]))))))))
  (.seq (.region [⟨(some 4), .mv (.c (.int .i64 (-1))), none⟩] (some [4]))
  .ret))), [.t 4]⟩
theorem slices_IndexFunc_Value_Value_ok : cFn Tryz.prog (kps [[0, 1], [0, 1, 7, 8], [0, 1, 7, 8, 9], [0, 1, 5, 7, 8], [0, 1, 5, 7, 8, 16], [4], [0, 1, 7, 8], [4]]) [] 150 = some slices_IndexFunc_Value_Value_c := by kernel_rfl

abbrev slices_IndexFunc_Type_Type : Nat := 151
def slices_IndexFunc_Type_Type_c : MFn :=
  ⟨19, (.seq (.region [⟨(some 4), .mv (.c (.int .i64 0)), none⟩] (some [0, 1]))
  (.seq (.seq (.region [⟨(some 6), .mv (.t 0), none⟩,
    ⟨(some 7), .lenS (.t 6), none⟩,
    ⟨(some 8), .mv (.c (.int .i64 0)), none⟩] (some [0, 1, 7, 8]))
  (.block 0 (.loop (.seq (.region [⟨(some 9), .bin .lss (.t 8) (.t 7), none⟩] (some [0, 1, 7, 8, 9]))
      (.seq (.cond (.t 9)
        .skip
        (.exit 0))
      (.seq (.block 1 (.seq (.region [⟨(some 10), .mv (.t 8), none⟩,
          ⟨(some 5), .mv (.t 10), none⟩] (some [0, 1, 5, 7, 8]))
        (.seq (.region [⟨(some 11), .mv (.t 1), none⟩,
          ⟨(some 12), .mv (.t 0), none⟩,
          ⟨(some 13), .mv (.t 5), none⟩,
          ⟨(some 14), .ixA 2 (.t 12) (.t 13), none⟩,
          ⟨(some 15), .ld (some 2) (.t 14), none⟩,
          ⟨(some 16), .callV (.t 11) [(.t 15)], none⟩] (some [0, 1, 5, 7, 8, 16]))
        (.cond (.t 16)
          (.seq (.region [⟨(some 17), .mv (.t 5), none⟩,
            ⟨(some 4), .mv (.t 17), none⟩] (some [4]))
          .ret)
          .skip))))
      (.region [⟨(some 18), .bin .add (.t 8) (.c (.int .i64 1)), none⟩,
        ⟨(some 8), .mv (.t 18), none⟩] (some [0, 1, 7, 8]))))))))
  (.seq (.region [⟨(some 4), .mv (.c (.int .i64 (-1))), none⟩] (some [4]))
  .ret))), [.t 4]⟩
theorem slices_IndexFunc_Type_Type_ok : cFn Tryz.prog (kps [[0, 1], [0, 1, 7, 8], [0, 1, 7, 8, 9], [0, 1, 5, 7, 8], [0, 1, 5, 7, 8, 16], [4], [0, 1, 7, 8], [4]]) [] 151 = some slices_IndexFunc_Type_Type_c := by kernel_rfl

end Go.Proofs.YtnneehniendnfaaGreat.F
