import Derived.Test.YtnneehniendnfaaGreatGC
import Derived.Test.YtnneehniendnfaaGreatProg
import Derived.KernelRfl
/-! Functions of the program, as the engine reads them: written by gen.py out of the engine's own print; each is held against the translation by the kernel. -/
namespace Go.Proofs.YtnneehniendnfaaGreat.F
open Go Go.Proofs Go.Proofs.YtnneehniendnfaaGreat.E
abbrev nat_trim : Nat := 123
def nat_trim_c : MFn :=
  ⟨21, (.seq (.region [⟨(some 2), .mv (.c (.nils)), none⟩] (some [0]))
  (.seq (.region [⟨(some 4), .mv (.t 0), none⟩,
    ⟨(some 5), .lenS (.t 4), none⟩,
    ⟨(some 3), .mv (.t 5), none⟩] (some [0, 3]))
  (.seq (.block 0 (.loop (.seq (.seq (.region [⟨(some 6), .mv (.t 3), none⟩,
        ⟨(some 7), .bin .gtr (.t 6) (.c (.int .i64 0)), none⟩,
        ⟨(some 8), .mv (.t 7), none⟩,
        ⟨(some 9), .mv (.t 0), (some (8, true))⟩,
        ⟨(some 10), .mv (.t 3), (some (8, true))⟩,
        ⟨(some 11), .bin .sub (.t 10) (.c (.int .i64 1)), (some (8, true))⟩,
        ⟨(some 12), .ixA 1 (.t 9) (.t 11), (some (8, true))⟩,
        ⟨(some 13), .ld none (.t 12), (some (8, true))⟩,
        ⟨(some 14), .bin .eql (.t 13) (.c (.int .u32 0)), (some (8, true))⟩,
        ⟨(some 15), .pick (.t 8) (.t 14) (.c (.bool false)), none⟩] (some [0, 3, 15]))
      (.cond (.t 15)
        .skip
        (.exit 0)))
      (.block 1 (.region [⟨(some 16), .mv (.t 3), none⟩,
          ⟨(some 17), .bin .sub (.t 16) (.c (.int .i64 1)), none⟩,
          ⟨(some 3), .mv (.t 17), none⟩] (some [0, 3]))))))
  (.seq (.region [⟨(some 18), .mv (.t 0), none⟩,
    ⟨(some 19), .mv (.t 3), none⟩,
    ⟨(some 20), .slc 1 (.t 18) none (some (.t 19)) none, none⟩,
    ⟨(some 2), .mv (.t 20), none⟩] (some [2]))
  .ret)))), [.t 2]⟩
theorem nat_trim_ok : cFn Tryz.prog (kps [[0], [0, 3], [0, 3, 15], [0, 3], [2]]) [] 123 = some nat_trim_c := by kernel_rfl

abbrev nat_Right : Nat := 93
def nat_Right_c : MFn :=
  ⟨15, (.seq (.region [⟨(some 2), .mv (.c (.bool false)), none⟩] (some [0]))
  (.seq (.region [⟨(some 3), .mv (.t 0), none⟩,
    ⟨(some 4), .lenS (.t 3), none⟩,
    ⟨(some 5), .bin .eql (.t 4) (.c (.int .i64 0)), none⟩,
    ⟨(some 6), .mv (.t 5), none⟩,
    ⟨(some 7), .mv (.t 0), (some (6, false))⟩,
    ⟨(some 8), .mv (.t 0), (some (6, false))⟩,
    ⟨(some 9), .lenS (.t 8), (some (6, false))⟩,
    ⟨(some 10), .bin .sub (.t 9) (.c (.int .i64 1)), (some (6, false))⟩,
    ⟨(some 11), .ixA 1 (.t 7) (.t 10), (some (6, false))⟩,
    ⟨(some 12), .ld none (.t 11), (some (6, false))⟩,
    ⟨(some 13), .bin .neq (.t 12) (.c (.int .u32 0)), (some (6, false))⟩,
    ⟨(some 14), .pick (.t 6) (.c (.bool true)) (.t 13), none⟩,
    ⟨(some 2), .mv (.t 14), none⟩] (some [2]))
  .ret)), [.t 2]⟩
theorem nat_Right_ok : cFn Tryz.prog (kps [[0], [2]]) [] 93 = some nat_Right_c := by kernel_rfl

abbrev nat_Of : Nat := 88
def nat_Of_c : MFn :=
  ⟨11, (.seq (.region [⟨(some 2), .mv (.c (.nils)), none⟩] (some [0]))
  (.seq (.region [⟨(some 3), .mv (.t 0), none⟩,
    ⟨(some 4), .cvt .u32 (.t 3), none⟩,
    ⟨(some 5), .mv (.t 0), none⟩,
    ⟨(some 6), .bin .shr (.t 5) (.c (.int .u64 32)), none⟩,
    ⟨(some 7), .cvt .u32 (.t 6), none⟩,
    ⟨(some 8), .buildSl 1 2 [.int .u32 0] [(0, (.t 4)), (1, (.t 7))], none⟩,
    ⟨(some 9), .call 123 [(.t 8)], none⟩,
    ⟨(some 10), .call 122 [(.t 9)], none⟩,
    ⟨(some 2), .mv (.t 10), none⟩] (some [2]))
  .ret)), [.t 2]⟩
theorem nat_Of_ok : cFn Tryz.prog (kps [[0], [2]]) [] 88 = some nat_Of_c := by kernel_rfl

abbrev nat_Small : Nat := 94
def nat_Small_c : MFn :=
  ⟨28, (.seq (.region [⟨(some 2), .mv (.c (.int .u64 0)), none⟩,
    ⟨(some 3), .mv (.c (.bool false)), none⟩] (some [0]))
  (.seq (.region [⟨(some 4), .mv (.t 0), none⟩,
    ⟨(some 5), .call 123 [(.t 4)], none⟩,
    ⟨(some 0), .mv (.t 5), none⟩] (some [0]))
  (.seq (.seq (.region [⟨(some 6), .mv (.t 0), none⟩,
    ⟨(some 7), .lenS (.t 6), none⟩] (some [0, 7]))
  (.block 0 (.seq (.region [⟨(some 9), .bin .eql (.t 7) (.c (.int .i64 0)), none⟩,
      ⟨(some 8), .mv (.t 9), none⟩] (some [0, 7, 8]))
    (.cond (.t 8)
      (.seq (.region [⟨(some 2), .mv (.c (.int .u64 0)), none⟩,
        ⟨(some 3), .mv (.c (.bool true)), none⟩] (some [2, 3]))
      .ret)
      (.seq (.region [⟨(some 11), .bin .eql (.t 7) (.c (.int .i64 1)), none⟩,
        ⟨(some 10), .mv (.t 11), none⟩] (some [0, 7, 10]))
      (.cond (.t 10)
        (.seq (.region [⟨(some 12), .mv (.t 0), none⟩,
          ⟨(some 13), .ixA 1 (.t 12) (.c (.int .i64 0)), none⟩,
          ⟨(some 14), .ld none (.t 13), none⟩,
          ⟨(some 15), .cvt .u64 (.t 14), none⟩,
          ⟨(some 2), .mv (.t 15), none⟩,
          ⟨(some 3), .mv (.c (.bool true)), none⟩] (some [2, 3]))
        .ret)
        (.seq (.region [⟨(some 17), .bin .eql (.t 7) (.c (.int .i64 2)), none⟩,
          ⟨(some 16), .mv (.t 17), none⟩] (some [0, 16]))
        (.cond (.t 16)
          (.seq (.region [⟨(some 18), .mv (.t 0), none⟩,
            ⟨(some 19), .ixA 1 (.t 18) (.c (.int .i64 0)), none⟩,
            ⟨(some 20), .ld none (.t 19), none⟩,
            ⟨(some 21), .cvt .u64 (.t 20), none⟩,
            ⟨(some 22), .mv (.t 0), none⟩,
            ⟨(some 23), .ixA 1 (.t 22) (.c (.int .i64 1)), none⟩,
            ⟨(some 24), .ld none (.t 23), none⟩,
            ⟨(some 25), .cvt .u64 (.t 24), none⟩,
            ⟨(some 26), .bin .shl (.t 25) (.c (.int .u64 32)), none⟩,
            ⟨(some 27), .bin .or (.t 21) (.t 26), none⟩,
            ⟨(some 2), .mv (.t 27), none⟩,
            ⟨(some 3), .mv (.c (.bool true)), none⟩] (some [2, 3]))
          .ret)
          .skip))))))))
  (.seq (.region [⟨(some 2), .mv (.c (.int .u64 0)), none⟩,
    ⟨(some 3), .mv (.c (.bool false)), none⟩] (some [2, 3]))
  .ret)))), [.t 2, .t 3]⟩
theorem nat_Small_ok : cFn Tryz.prog (kps [[0], [0], [0, 7], [0, 7, 8], [2, 3], [0, 7, 10], [2, 3], [0, 16], [2, 3], [2, 3]]) [] 94 = some nat_Small_c := by kernel_rfl

abbrev nat_Compare : Nat := 96
def nat_Compare_c : MFn :=
  ⟨49, (.seq (.region [⟨(some 4), .mv (.c (.int .i64 0)), none⟩] (some [0, 1]))
  (.seq (.region [⟨(some 6), .mv (.t 0), none⟩,
    ⟨(some 7), .call 123 [(.t 6)], none⟩,
    ⟨(some 8), .mv (.t 1), none⟩,
    ⟨(some 9), .call 123 [(.t 8)], none⟩,
    ⟨(some 0), .mv (.t 7), none⟩,
    ⟨(some 1), .mv (.t 9), none⟩] (some [0, 1]))
  (.seq (.block 0 (.seq (.region [⟨(some 11), .mv (.t 0), none⟩,
      ⟨(some 12), .lenS (.t 11), none⟩,
      ⟨(some 13), .mv (.t 1), none⟩,
      ⟨(some 14), .lenS (.t 13), none⟩,
      ⟨(some 15), .bin .lss (.t 12) (.t 14), none⟩,
      ⟨(some 10), .mv (.t 15), none⟩] (some [0, 1, 10]))
    (.cond (.t 10)
      (.seq (.region [⟨(some 4), .mv (.c (.int .i64 (-1))), none⟩] (some [4]))
      .ret)
      (.seq (.region [⟨(some 17), .mv (.t 0), none⟩,
        ⟨(some 18), .lenS (.t 17), none⟩,
        ⟨(some 19), .mv (.t 1), none⟩,
        ⟨(some 20), .lenS (.t 19), none⟩,
        ⟨(some 21), .bin .gtr (.t 18) (.t 20), none⟩,
        ⟨(some 16), .mv (.t 21), none⟩] (some [0, 1, 16]))
      (.cond (.t 16)
        (.seq (.region [⟨(some 4), .mv (.c (.int .i64 1)), none⟩] (some [4]))
        .ret)
        .skip)))))
  (.seq (.seq (.region [⟨(some 22), .mv (.t 0), none⟩,
    ⟨(some 23), .lenS (.t 22), none⟩,
    ⟨(some 24), .bin .sub (.t 23) (.c (.int .i64 1)), none⟩,
    ⟨(some 5), .mv (.t 24), none⟩] (some [0, 1, 5]))
  (.block 1 (.loop (.seq (.seq (.region [⟨(some 25), .mv (.t 5), none⟩,
        ⟨(some 26), .bin .geq (.t 25) (.c (.int .i64 0)), none⟩] (some [0, 1, 5, 26]))
      (.cond (.t 26)
        .skip
        (.exit 1)))
      (.seq (.block 2 (.block 3 (.seq (.region [⟨(some 30), .mv (.t 0), none⟩,
            ⟨(some 31), .mv (.t 5), none⟩,
            ⟨(some 32), .ixA 1 (.t 30) (.t 31), none⟩,
            ⟨(some 33), .ld none (.t 32), none⟩,
            ⟨(some 34), .mv (.t 1), none⟩,
            ⟨(some 35), .mv (.t 5), none⟩,
            ⟨(some 36), .ixA 1 (.t 34) (.t 35), none⟩,
            ⟨(some 37), .ld none (.t 36), none⟩,
            ⟨(some 38), .bin .lss (.t 33) (.t 37), none⟩,
            ⟨(some 29), .mv (.t 38), none⟩] (some [0, 1, 5, 29]))
          (.cond (.t 29)
            (.seq (.region [⟨(some 4), .mv (.c (.int .i64 (-1))), none⟩] (some [4]))
            .ret)
            (.seq (.region [⟨(some 40), .mv (.t 0), none⟩,
              ⟨(some 41), .mv (.t 5), none⟩,
              ⟨(some 42), .ixA 1 (.t 40) (.t 41), none⟩,
              ⟨(some 43), .ld none (.t 42), none⟩,
              ⟨(some 44), .mv (.t 1), none⟩,
              ⟨(some 45), .mv (.t 5), none⟩,
              ⟨(some 46), .ixA 1 (.t 44) (.t 45), none⟩,
              ⟨(some 47), .ld none (.t 46), none⟩,
              ⟨(some 48), .bin .gtr (.t 43) (.t 47), none⟩,
              ⟨(some 39), .mv (.t 48), none⟩] (some [0, 1, 5, 39]))
            (.cond (.t 39)
              (.seq (.region [⟨(some 4), .mv (.c (.int .i64 1)), none⟩] (some [4]))
              .ret)
              .skip))))))
      (.region [⟨(some 27), .mv (.t 5), none⟩,
        ⟨(some 28), .bin .sub (.t 27) (.c (.int .i64 1)), none⟩,
        ⟨(some 5), .mv (.t 28), none⟩] (some [0, 1, 5])))))))
  (.seq (.region [⟨(some 4), .mv (.c (.int .i64 0)), none⟩] (some [4]))
  .ret))))), [.t 4]⟩
theorem nat_Compare_ok : cFn Tryz.prog (kps [[0, 1], [0, 1], [0, 1, 10], [4], [0, 1, 16], [4], [0, 1, 5], [0, 1, 5, 26], [0, 1, 5], [0, 1, 5, 29], [4], [0, 1, 5, 39], [4], [4]]) [] 96 = some nat_Compare_c := by kernel_rfl

abbrev nat_Add : Nat := 101
def nat_Add_c : MFn :=
  ⟨60, (.seq (.region [⟨(some 4), .mv (.c (.nils)), none⟩] (some [0, 1]))
  (.seq (.region [⟨(some 9), .mv (.t 0), none⟩,
    ⟨(some 10), .call 123 [(.t 9)], none⟩,
    ⟨(some 11), .mv (.t 1), none⟩,
    ⟨(some 12), .call 123 [(.t 11)], none⟩,
    ⟨(some 0), .mv (.t 10), none⟩,
    ⟨(some 1), .mv (.t 12), none⟩] (some [0, 1]))
  (.seq (.seq (.region [⟨(some 13), .mv (.t 0), none⟩,
    ⟨(some 14), .lenS (.t 13), none⟩,
    ⟨(some 15), .mv (.t 1), none⟩,
    ⟨(some 16), .lenS (.t 15), none⟩,
    ⟨(some 17), .bin .lss (.t 14) (.t 16), none⟩] (some [0, 1, 17]))
  (.cond (.t 17)
    (.region [⟨(some 18), .mv (.t 1), none⟩,
      ⟨(some 19), .mv (.t 0), none⟩,
      ⟨(some 0), .mv (.t 18), none⟩,
      ⟨(some 1), .mv (.t 19), none⟩] (some [0, 1]))
    .skip))
  (.seq (.region [⟨(some 20), .mv (.t 0), none⟩,
    ⟨(some 21), .lenS (.t 20), none⟩,
    ⟨(some 22), .bin .add (.t 21) (.c (.int .i64 1)), none⟩,
    ⟨(some 23), .mkSl 1 4 [.int .u32 0] (.c (.int .i64 0)) (.t 22), none⟩,
    ⟨(some 5), .mv (.t 23), none⟩] (some [0, 1, 5]))
  (.seq (.region [⟨(some 6), .mv (.c (.int .u64 0)), none⟩] (some [0, 1, 5, 6]))
  (.seq (.seq (.region [⟨(some 24), .mv (.t 0), none⟩,
    ⟨(some 25), .lenS (.t 24), none⟩,
    ⟨(some 26), .mv (.c (.int .i64 0)), none⟩] (some [1, 5, 6, 24, 25, 26]))
  (.block 0 (.loop (.seq (.region [⟨(some 27), .bin .lss (.t 26) (.t 25), none⟩] (some [1, 5, 6, 24, 25, 26, 27]))
      (.seq (.cond (.t 27)
        .skip
        (.exit 0))
      (.seq (.block 1 (.seq (.region [⟨(some 28), .mv (.t 26), none⟩,
          ⟨(some 29), .ixA 1 (.t 24) (.t 26), none⟩,
          ⟨(some 30), .ld none (.t 29), none⟩,
          ⟨(some 7), .mv (.t 28), none⟩,
          ⟨(some 8), .mv (.t 30), none⟩] (some [1, 5, 6, 7, 8, 24, 25, 26]))
        (.seq (.region [⟨(some 31), .mv (.t 6), none⟩,
          ⟨(some 32), .mv (.t 8), none⟩,
          ⟨(some 33), .cvt .u64 (.t 32), none⟩,
          ⟨(some 34), .bin .add (.t 31) (.t 33), none⟩,
          ⟨(some 6), .mv (.t 34), none⟩] (some [1, 5, 6, 7, 24, 25, 26]))
        (.seq (.seq (.region [⟨(some 35), .mv (.t 7), none⟩,
          ⟨(some 36), .mv (.t 1), none⟩,
          ⟨(some 37), .lenS (.t 36), none⟩,
          ⟨(some 38), .bin .lss (.t 35) (.t 37), none⟩] (some [1, 5, 6, 7, 24, 25, 26, 38]))
        (.cond (.t 38)
          (.region [⟨(some 39), .mv (.t 6), none⟩,
            ⟨(some 40), .mv (.t 1), none⟩,
            ⟨(some 41), .mv (.t 7), none⟩,
            ⟨(some 42), .ixA 1 (.t 40) (.t 41), none⟩,
            ⟨(some 43), .ld none (.t 42), none⟩,
            ⟨(some 44), .cvt .u64 (.t 43), none⟩,
            ⟨(some 45), .bin .add (.t 39) (.t 44), none⟩,
            ⟨(some 6), .mv (.t 45), none⟩] (some [1, 5, 6, 24, 25, 26]))
          .skip))
        (.seq (.region [⟨(some 46), .mv (.t 5), none⟩,
          ⟨(some 47), .mv (.t 6), none⟩,
          ⟨(some 48), .cvt .u32 (.t 47), none⟩,
          ⟨(some 49), .buildSl 1 1 [.int .u32 0] [(0, (.t 48))], none⟩,
          ⟨(some 50), .app 1 4 (.t 46) (.t 49), none⟩,
          ⟨(some 5), .mv (.t 50), none⟩] (some [1, 5, 6, 24, 25, 26]))
        (.region [⟨(some 51), .mv (.t 6), none⟩,
          ⟨(some 52), .bin .shr (.t 51) (.c (.int .u64 32)), none⟩,
          ⟨(some 6), .mv (.t 52), none⟩] (some [1, 5, 6, 24, 25, 26])))))))
      (.region [⟨(some 53), .bin .add (.t 26) (.c (.int .i64 1)), none⟩,
        ⟨(some 26), .mv (.t 53), none⟩] (some [1, 5, 6, 24, 25, 26]))))))))
  (.seq (.region [⟨(some 54), .mv (.t 5), none⟩,
    ⟨(some 55), .mv (.t 6), none⟩,
    ⟨(some 56), .cvt .u32 (.t 55), none⟩,
    ⟨(some 57), .buildSl 1 1 [.int .u32 0] [(0, (.t 56))], none⟩,
    ⟨(some 58), .app 1 4 (.t 54) (.t 57), none⟩,
    ⟨(some 59), .call 123 [(.t 58)], none⟩,
    ⟨(some 4), .mv (.t 59), none⟩] (some [4]))
  .ret))))))), [.t 4]⟩
theorem nat_Add_ok : cFn Tryz.prog (kps [[0, 1], [0, 1], [0, 1, 17], [0, 1], [0, 1, 5], [0, 1, 5, 6], [1, 5, 6, 24, 25, 26], [1, 5, 6, 24, 25, 26, 27], [1, 5, 6, 7, 8, 24, 25, 26], [1, 5, 6, 7, 24, 25, 26], [1, 5, 6, 7, 24, 25, 26, 38], [1, 5, 6, 24, 25, 26], [1, 5, 6, 24, 25, 26], [1, 5, 6, 24, 25, 26], [1, 5, 6, 24, 25, 26], [4]]) [] 101 = some nat_Add_c := by kernel_rfl

abbrev nat_Sub : Nat := 102
def nat_Sub_c : MFn :=
  ⟨59, (.seq (.region [⟨(some 4), .mv (.c (.nils)), none⟩,
    ⟨(some 5), .mv (.c (.int .i64 0)), none⟩] (some [0, 1]))
  (.seq (.seq (.region [⟨(some 11), .mv (.t 0), none⟩,
    ⟨(some 12), .mv (.t 1), none⟩,
    ⟨(some 13), .call 96 [(.t 11), (.t 12)], none⟩,
    ⟨(some 14), .bin .lss (.t 13) (.c (.int .i64 0)), none⟩] (some [0, 1, 14]))
  (.cond (.t 14)
    (.seq (.region [⟨(some 4), .mv (.c (.nils)), none⟩,
      ⟨(some 5), .mv (.c (.int .i64 1)), none⟩] (some [4, 5]))
    .ret)
    .skip))
  (.seq (.region [⟨(some 15), .mv (.t 0), none⟩,
    ⟨(some 16), .call 123 [(.t 15)], none⟩,
    ⟨(some 17), .mv (.t 1), none⟩,
    ⟨(some 18), .call 123 [(.t 17)], none⟩,
    ⟨(some 0), .mv (.t 16), none⟩,
    ⟨(some 1), .mv (.t 18), none⟩] (some [0, 1]))
  (.seq (.region [⟨(some 19), .mv (.t 0), none⟩,
    ⟨(some 20), .lenS (.t 19), none⟩,
    ⟨(some 21), .mkSl 1 4 [.int .u32 0] (.t 20) (.t 20), none⟩,
    ⟨(some 6), .mv (.t 21), none⟩] (some [0, 1, 6]))
  (.seq (.region [⟨(some 7), .mv (.c (.int .u64 0)), none⟩] (some [0, 1, 6, 7]))
  (.seq (.seq (.region [⟨(some 22), .mv (.t 0), none⟩,
    ⟨(some 23), .lenS (.t 22), none⟩,
    ⟨(some 24), .mv (.c (.int .i64 0)), none⟩] (some [1, 6, 7, 22, 23, 24]))
  (.block 0 (.loop (.seq (.region [⟨(some 25), .bin .lss (.t 24) (.t 23), none⟩] (some [1, 6, 7, 22, 23, 24, 25]))
      (.seq (.cond (.t 25)
        .skip
        (.exit 0))
      (.seq (.block 1 (.seq (.region [⟨(some 26), .mv (.t 24), none⟩,
          ⟨(some 27), .ixA 1 (.t 22) (.t 24), none⟩,
          ⟨(some 28), .ld none (.t 27), none⟩,
          ⟨(some 8), .mv (.t 26), none⟩,
          ⟨(some 9), .mv (.t 28), none⟩] (some [1, 6, 7, 8, 9, 22, 23, 24]))
        (.seq (.region [⟨(some 29), .mv (.t 7), none⟩,
          ⟨(some 10), .mv (.t 29), none⟩] (some [1, 6, 8, 9, 10, 22, 23, 24]))
        (.seq (.seq (.region [⟨(some 30), .mv (.t 8), none⟩,
          ⟨(some 31), .mv (.t 1), none⟩,
          ⟨(some 32), .lenS (.t 31), none⟩,
          ⟨(some 33), .bin .lss (.t 30) (.t 32), none⟩] (some [1, 6, 8, 9, 10, 22, 23, 24, 33]))
        (.cond (.t 33)
          (.region [⟨(some 34), .mv (.t 10), none⟩,
            ⟨(some 35), .mv (.t 1), none⟩,
            ⟨(some 36), .mv (.t 8), none⟩,
            ⟨(some 37), .ixA 1 (.t 35) (.t 36), none⟩,
            ⟨(some 38), .ld none (.t 37), none⟩,
            ⟨(some 39), .cvt .u64 (.t 38), none⟩,
            ⟨(some 40), .bin .add (.t 34) (.t 39), none⟩,
            ⟨(some 10), .mv (.t 40), none⟩] (some [1, 6, 8, 9, 10, 22, 23, 24]))
          .skip))
        (.seq (.region [⟨(some 7), .mv (.c (.int .u64 0)), none⟩] (some [1, 6, 7, 8, 9, 10, 22, 23, 24]))
        (.seq (.seq (.region [⟨(some 41), .mv (.t 9), none⟩,
          ⟨(some 42), .cvt .u64 (.t 41), none⟩,
          ⟨(some 43), .mv (.t 10), none⟩,
          ⟨(some 44), .bin .lss (.t 42) (.t 43), none⟩] (some [1, 6, 7, 8, 9, 10, 22, 23, 24, 44]))
        (.cond (.t 44)
          (.region [⟨(some 7), .mv (.c (.int .u64 1)), none⟩] (some [1, 6, 7, 8, 9, 10, 22, 23, 24]))
          .skip))
        (.region [⟨(some 45), .mv (.t 6), none⟩,
          ⟨(some 46), .mv (.t 8), none⟩,
          ⟨(some 47), .mv (.t 9), none⟩,
          ⟨(some 48), .cvt .u64 (.t 47), none⟩,
          ⟨(some 49), .mv (.t 7), none⟩,
          ⟨(some 50), .bin .shl (.t 49) (.c (.int .u64 32)), none⟩,
          ⟨(some 51), .bin .add (.t 48) (.t 50), none⟩,
          ⟨(some 52), .mv (.t 10), none⟩,
          ⟨(some 53), .bin .sub (.t 51) (.t 52), none⟩,
          ⟨(some 54), .cvt .u32 (.t 53), none⟩,
          ⟨(some 55), .ixA 1 (.t 45) (.t 46), none⟩,
          ⟨none, .st 1 (.t 55) (.t 54), none⟩] (some [1, 6, 7, 22, 23, 24]))))))))
      (.region [⟨(some 56), .bin .add (.t 24) (.c (.int .i64 1)), none⟩,
        ⟨(some 24), .mv (.t 56), none⟩] (some [1, 6, 7, 22, 23, 24]))))))))
  (.seq (.region [⟨(some 57), .mv (.t 6), none⟩,
    ⟨(some 58), .call 123 [(.t 57)], none⟩,
    ⟨(some 4), .mv (.t 58), none⟩,
    ⟨(some 5), .mv (.c (.int .i64 0)), none⟩] (some [4, 5]))
  .ret))))))), [.t 4, .t 5]⟩
theorem nat_Sub_ok : cFn Tryz.prog (kps [[0, 1], [0, 1, 14], [4, 5], [0, 1], [0, 1, 6], [0, 1, 6, 7], [1, 6, 7, 22, 23, 24], [1, 6, 7, 22, 23, 24, 25], [1, 6, 7, 8, 9, 22, 23, 24], [1, 6, 8, 9, 10, 22, 23, 24], [1, 6, 8, 9, 10, 22, 23, 24, 33], [1, 6, 8, 9, 10, 22, 23, 24], [1, 6, 7, 8, 9, 10, 22, 23, 24], [1, 6, 7, 8, 9, 10, 22, 23, 24, 44], [1, 6, 7, 8, 9, 10, 22, 23, 24], [1, 6, 7, 22, 23, 24], [1, 6, 7, 22, 23, 24], [4, 5]]) [] 102 = some nat_Sub_c := by kernel_rfl

abbrev nat_Mul : Nat := 100
def nat_Mul_c : MFn :=
  ⟨71, (.seq (.region [⟨(some 4), .mv (.c (.nils)), none⟩] (some [0, 1]))
  (.seq (.region [⟨(some 11), .mv (.t 0), none⟩,
    ⟨(some 12), .call 123 [(.t 11)], none⟩,
    ⟨(some 13), .mv (.t 1), none⟩,
    ⟨(some 14), .call 123 [(.t 13)], none⟩,
    ⟨(some 0), .mv (.t 12), none⟩,
    ⟨(some 1), .mv (.t 14), none⟩] (some [0, 1]))
  (.seq (.region [⟨(some 15), .mv (.t 0), none⟩,
    ⟨(some 16), .lenS (.t 15), none⟩,
    ⟨(some 17), .mv (.t 1), none⟩,
    ⟨(some 18), .lenS (.t 17), none⟩,
    ⟨(some 19), .bin .add (.t 16) (.t 18), none⟩,
    ⟨(some 20), .mkSl 1 4 [.int .u32 0] (.t 19) (.t 19), none⟩,
    ⟨(some 5), .mv (.t 20), none⟩] (some [0, 1, 5]))
  (.seq (.seq (.region [⟨(some 21), .mv (.t 0), none⟩,
    ⟨(some 22), .lenS (.t 21), none⟩,
    ⟨(some 23), .mv (.c (.int .i64 0)), none⟩] (some [1, 5, 21, 22, 23]))
  (.block 0 (.loop (.seq (.region [⟨(some 24), .bin .lss (.t 23) (.t 22), none⟩] (some [1, 5, 21, 22, 23, 24]))
      (.seq (.cond (.t 24)
        .skip
        (.exit 0))
      (.seq (.block 1 (.seq (.region [⟨(some 25), .mv (.t 23), none⟩,
          ⟨(some 26), .ixA 1 (.t 21) (.t 23), none⟩,
          ⟨(some 27), .ld none (.t 26), none⟩,
          ⟨(some 6), .mv (.t 25), none⟩,
          ⟨(some 7), .mv (.t 27), none⟩] (some [1, 5, 6, 7, 21, 22, 23]))
        (.seq (.region [⟨(some 8), .mv (.c (.int .u64 0)), none⟩] (some [1, 5, 6, 7, 8, 21, 22, 23]))
        (.seq (.seq (.region [⟨(some 28), .mv (.t 1), none⟩,
          ⟨(some 29), .lenS (.t 28), none⟩,
          ⟨(some 30), .mv (.c (.int .i64 0)), none⟩] (some [1, 5, 6, 7, 8, 21, 22, 23, 28, 29, 30]))
        (.block 2 (.loop (.seq (.region [⟨(some 31), .bin .lss (.t 30) (.t 29), none⟩] (some [1, 5, 6, 7, 8, 21, 22, 23, 28, 29, 30, 31]))
            (.seq (.cond (.t 31)
              .skip
              (.exit 2))
            (.seq (.block 3 (.seq (.region [⟨(some 32), .mv (.t 30), none⟩,
                ⟨(some 33), .ixA 1 (.t 28) (.t 30), none⟩,
                ⟨(some 34), .ld none (.t 33), none⟩,
                ⟨(some 9), .mv (.t 32), none⟩,
                ⟨(some 10), .mv (.t 34), none⟩] (some [1, 5, 6, 7, 8, 9, 10, 21, 22, 23, 28, 29, 30]))
              (.seq (.region [⟨(some 35), .mv (.t 8), none⟩,
                ⟨(some 36), .mv (.t 5), none⟩,
                ⟨(some 37), .mv (.t 6), none⟩,
                ⟨(some 38), .mv (.t 9), none⟩,
                ⟨(some 39), .bin .add (.t 37) (.t 38), none⟩,
                ⟨(some 40), .ixA 1 (.t 36) (.t 39), none⟩,
                ⟨(some 41), .ld none (.t 40), none⟩,
                ⟨(some 42), .cvt .u64 (.t 41), none⟩,
                ⟨(some 43), .mv (.t 7), none⟩,
                ⟨(some 44), .cvt .u64 (.t 43), none⟩,
                ⟨(some 45), .mv (.t 10), none⟩,
                ⟨(some 46), .cvt .u64 (.t 45), none⟩,
                ⟨(some 47), .bin .mul (.t 44) (.t 46), none⟩,
                ⟨(some 48), .bin .add (.t 42) (.t 47), none⟩,
                ⟨(some 49), .bin .add (.t 35) (.t 48), none⟩,
                ⟨(some 8), .mv (.t 49), none⟩] (some [1, 5, 6, 7, 8, 9, 21, 22, 23, 28, 29, 30]))
              (.seq (.region [⟨(some 50), .mv (.t 5), none⟩,
                ⟨(some 51), .mv (.t 6), none⟩,
                ⟨(some 52), .mv (.t 9), none⟩,
                ⟨(some 53), .bin .add (.t 51) (.t 52), none⟩,
                ⟨(some 54), .mv (.t 8), none⟩,
                ⟨(some 55), .cvt .u32 (.t 54), none⟩,
                ⟨(some 56), .ixA 1 (.t 50) (.t 53), none⟩,
                ⟨none, .st 1 (.t 56) (.t 55), none⟩] (some [1, 5, 6, 7, 8, 21, 22, 23, 28, 29, 30]))
              (.region [⟨(some 57), .mv (.t 8), none⟩,
                ⟨(some 58), .bin .shr (.t 57) (.c (.int .u64 32)), none⟩,
                ⟨(some 8), .mv (.t 58), none⟩] (some [1, 5, 6, 7, 8, 21, 22, 23, 28, 29, 30]))))))
            (.region [⟨(some 59), .bin .add (.t 30) (.c (.int .i64 1)), none⟩,
              ⟨(some 30), .mv (.t 59), none⟩] (some [1, 5, 6, 7, 8, 21, 22, 23, 28, 29, 30]))))))))
        (.region [⟨(some 60), .mv (.t 5), none⟩,
          ⟨(some 61), .mv (.t 6), none⟩,
          ⟨(some 62), .mv (.t 1), none⟩,
          ⟨(some 63), .lenS (.t 62), none⟩,
          ⟨(some 64), .bin .add (.t 61) (.t 63), none⟩,
          ⟨(some 65), .mv (.t 8), none⟩,
          ⟨(some 66), .cvt .u32 (.t 65), none⟩,
          ⟨(some 67), .ixA 1 (.t 60) (.t 64), none⟩,
          ⟨none, .st 1 (.t 67) (.t 66), none⟩] (some [1, 5, 21, 22, 23]))))))
      (.region [⟨(some 68), .bin .add (.t 23) (.c (.int .i64 1)), none⟩,
        ⟨(some 23), .mv (.t 68), none⟩] (some [1, 5, 21, 22, 23]))))))))
  (.seq (.region [⟨(some 69), .mv (.t 5), none⟩,
    ⟨(some 70), .call 123 [(.t 69)], none⟩,
    ⟨(some 4), .mv (.t 70), none⟩] (some [4]))
  .ret))))), [.t 4]⟩
theorem nat_Mul_ok : cFn Tryz.prog (kps [[0, 1], [0, 1], [0, 1, 5], [1, 5, 21, 22, 23], [1, 5, 21, 22, 23, 24], [1, 5, 6, 7, 21, 22, 23], [1, 5, 6, 7, 8, 21, 22, 23], [1, 5, 6, 7, 8, 21, 22, 23, 28, 29, 30], [1, 5, 6, 7, 8, 21, 22, 23, 28, 29, 30, 31], [1, 5, 6, 7, 8, 9, 10, 21, 22, 23, 28, 29, 30], [1, 5, 6, 7, 8, 9, 21, 22, 23, 28, 29, 30], [1, 5, 6, 7, 8, 21, 22, 23, 28, 29, 30], [1, 5, 6, 7, 8, 21, 22, 23, 28, 29, 30], [1, 5, 6, 7, 8, 21, 22, 23, 28, 29, 30], [1, 5, 21, 22, 23], [1, 5, 21, 22, 23], [4]]) [] 100 = some nat_Mul_c := by kernel_rfl

abbrev nat_short : Nat := 145
def nat_short_c : MFn :=
  ⟨43, (.seq (.region [⟨(some 4), .mv (.c (.nils)), none⟩,
    ⟨(some 5), .mv (.c (.int .u32 0)), none⟩] (some [0, 1]))
  (.seq (.region [⟨(some 9), .mv (.t 0), none⟩,
    ⟨(some 10), .lenS (.t 9), none⟩,
    ⟨(some 11), .mkSl 1 4 [.int .u32 0] (.t 10) (.t 10), none⟩,
    ⟨(some 6), .mv (.t 11), none⟩] (some [0, 1, 6]))
  (.seq (.region [⟨(some 7), .mv (.c (.int .u64 0)), none⟩] (some [0, 1, 6, 7]))
  (.seq (.seq (.region [⟨(some 12), .mv (.t 0), none⟩,
    ⟨(some 13), .lenS (.t 12), none⟩,
    ⟨(some 14), .bin .sub (.t 13) (.c (.int .i64 1)), none⟩,
    ⟨(some 8), .mv (.t 14), none⟩] (some [0, 1, 6, 7, 8]))
  (.block 0 (.loop (.seq (.seq (.region [⟨(some 15), .mv (.t 8), none⟩,
        ⟨(some 16), .bin .geq (.t 15) (.c (.int .i64 0)), none⟩] (some [0, 1, 6, 7, 8, 16]))
      (.cond (.t 16)
        .skip
        (.exit 0)))
      (.seq (.block 1 (.seq (.region [⟨(some 19), .mv (.t 7), none⟩,
          ⟨(some 20), .bin .shl (.t 19) (.c (.int .u64 32)), none⟩,
          ⟨(some 21), .mv (.t 0), none⟩,
          ⟨(some 22), .mv (.t 8), none⟩,
          ⟨(some 23), .ixA 1 (.t 21) (.t 22), none⟩,
          ⟨(some 24), .ld none (.t 23), none⟩,
          ⟨(some 25), .cvt .u64 (.t 24), none⟩,
          ⟨(some 26), .bin .or (.t 20) (.t 25), none⟩,
          ⟨(some 7), .mv (.t 26), none⟩] (some [0, 1, 6, 7, 8]))
        (.seq (.region [⟨(some 27), .mv (.t 6), none⟩,
          ⟨(some 28), .mv (.t 8), none⟩,
          ⟨(some 29), .mv (.t 7), none⟩,
          ⟨(some 30), .mv (.t 1), none⟩,
          ⟨(some 31), .cvt .u64 (.t 30), none⟩,
          ⟨(some 32), .bin .quo (.t 29) (.t 31), none⟩,
          ⟨(some 33), .cvt .u32 (.t 32), none⟩,
          ⟨(some 34), .ixA 1 (.t 27) (.t 28), none⟩,
          ⟨none, .st 1 (.t 34) (.t 33), none⟩] (some [0, 1, 6, 7, 8]))
        (.region [⟨(some 35), .mv (.t 7), none⟩,
          ⟨(some 36), .mv (.t 1), none⟩,
          ⟨(some 37), .cvt .u64 (.t 36), none⟩,
          ⟨(some 38), .bin .rem (.t 35) (.t 37), none⟩,
          ⟨(some 7), .mv (.t 38), none⟩] (some [0, 1, 6, 7, 8])))))
      (.region [⟨(some 17), .mv (.t 8), none⟩,
        ⟨(some 18), .bin .sub (.t 17) (.c (.int .i64 1)), none⟩,
        ⟨(some 8), .mv (.t 18), none⟩] (some [0, 1, 6, 7, 8])))))))
  (.seq (.region [⟨(some 39), .mv (.t 6), none⟩,
    ⟨(some 40), .call 123 [(.t 39)], none⟩,
    ⟨(some 41), .mv (.t 7), none⟩,
    ⟨(some 42), .cvt .u32 (.t 41), none⟩,
    ⟨(some 4), .mv (.t 40), none⟩,
    ⟨(some 5), .mv (.t 42), none⟩] (some [4, 5]))
  .ret))))), [.t 4, .t 5]⟩
theorem nat_short_ok : cFn Tryz.prog (kps [[0, 1], [0, 1, 6], [0, 1, 6, 7], [0, 1, 6, 7, 8], [0, 1, 6, 7, 8, 16], [0, 1, 6, 7, 8], [0, 1, 6, 7, 8], [0, 1, 6, 7, 8], [0, 1, 6, 7, 8], [4, 5]]) [] 145 = some nat_short_c := by kernel_rfl

abbrev nat_shifted : Nat := 147
def nat_shifted_c : MFn :=
  ⟨40, (.seq (.region [⟨(some 4), .mv (.c (.nils)), none⟩] (some [0, 1]))
  (.seq (.region [⟨(some 8), .mv (.t 0), none⟩,
    ⟨(some 9), .lenS (.t 8), none⟩,
    ⟨(some 10), .bin .add (.t 9) (.c (.int .i64 1)), none⟩,
    ⟨(some 11), .mkSl 1 4 [.int .u32 0] (.t 10) (.t 10), none⟩,
    ⟨(some 5), .mv (.t 11), none⟩] (some [0, 1, 5]))
  (.seq (.seq (.region [⟨(some 12), .mv (.t 0), none⟩,
    ⟨(some 13), .lenS (.t 12), none⟩,
    ⟨(some 14), .mv (.c (.int .i64 0)), none⟩] (some [1, 5, 12, 13, 14]))
  (.block 0 (.loop (.seq (.region [⟨(some 15), .bin .lss (.t 14) (.t 13), none⟩] (some [1, 5, 12, 13, 14, 15]))
      (.seq (.cond (.t 15)
        .skip
        (.exit 0))
      (.seq (.block 1 (.seq (.region [⟨(some 16), .mv (.t 14), none⟩,
          ⟨(some 17), .ixA 1 (.t 12) (.t 14), none⟩,
          ⟨(some 18), .ld none (.t 17), none⟩,
          ⟨(some 6), .mv (.t 16), none⟩,
          ⟨(some 7), .mv (.t 18), none⟩] (some [1, 5, 6, 7, 12, 13, 14]))
        (.seq (.region [⟨(some 19), .mv (.t 5), none⟩,
          ⟨(some 20), .mv (.t 6), none⟩,
          ⟨(some 21), .ixA 1 (.t 19) (.t 20), none⟩,
          ⟨(some 22), .ld none (.t 21), none⟩,
          ⟨(some 23), .mv (.t 7), none⟩,
          ⟨(some 24), .mv (.t 1), none⟩,
          ⟨(some 25), .bin .shl (.t 23) (.t 24), none⟩,
          ⟨(some 26), .bin .or (.t 22) (.t 25), none⟩,
          ⟨(some 27), .ixA 1 (.t 19) (.t 20), none⟩,
          ⟨none, .st 1 (.t 27) (.t 26), none⟩] (some [1, 5, 6, 7, 12, 13, 14]))
        (.region [⟨(some 28), .mv (.t 5), none⟩,
          ⟨(some 29), .mv (.t 6), none⟩,
          ⟨(some 30), .bin .add (.t 29) (.c (.int .i64 1)), none⟩,
          ⟨(some 31), .mv (.t 7), none⟩,
          ⟨(some 32), .cvt .u64 (.t 31), none⟩,
          ⟨(some 33), .mv (.t 1), none⟩,
          ⟨(some 34), .bin .shl (.t 32) (.t 33), none⟩,
          ⟨(some 35), .bin .shr (.t 34) (.c (.int .u64 32)), none⟩,
          ⟨(some 36), .cvt .u32 (.t 35), none⟩,
          ⟨(some 37), .ixA 1 (.t 28) (.t 30), none⟩,
          ⟨none, .st 1 (.t 37) (.t 36), none⟩] (some [1, 5, 12, 13, 14])))))
      (.region [⟨(some 38), .bin .add (.t 14) (.c (.int .i64 1)), none⟩,
        ⟨(some 14), .mv (.t 38), none⟩] (some [1, 5, 12, 13, 14]))))))))
  (.seq (.region [⟨(some 39), .mv (.t 5), none⟩,
    ⟨(some 4), .mv (.t 39), none⟩] (some [4]))
  .ret)))), [.t 4]⟩
theorem nat_shifted_ok : cFn Tryz.prog (kps [[0, 1], [0, 1, 5], [1, 5, 12, 13, 14], [1, 5, 12, 13, 14, 15], [1, 5, 6, 7, 12, 13, 14], [1, 5, 6, 7, 12, 13, 14], [1, 5, 12, 13, 14], [1, 5, 12, 13, 14], [4]]) [] 147 = some nat_shifted_c := by kernel_rfl

abbrev nat_Div : Nat := 127
def nat_Div_c : MFn :=
  ⟨315, (.seq (.region [⟨(some 4), .mv (.c (.nils)), none⟩,
    ⟨(some 5), .mv (.c (.nils)), none⟩,
    ⟨(some 6), .mv (.c (.int .i64 0)), none⟩] (some [0, 1]))
  (.seq (.region [⟨(some 27), .mv (.t 0), none⟩,
    ⟨(some 28), .call 123 [(.t 27)], none⟩,
    ⟨(some 29), .mv (.t 1), none⟩,
    ⟨(some 30), .call 123 [(.t 29)], none⟩,
    ⟨(some 0), .mv (.t 28), none⟩,
    ⟨(some 1), .mv (.t 30), none⟩] (some [0, 1]))
  (.seq (.block 0 (.seq (.region [⟨(some 32), .mv (.t 1), none⟩,
      ⟨(some 33), .lenS (.t 32), none⟩,
      ⟨(some 34), .bin .eql (.t 33) (.c (.int .i64 0)), none⟩,
      ⟨(some 31), .mv (.t 34), none⟩] (some [0, 1, 31]))
    (.cond (.t 31)
      (.seq (.region [⟨(some 4), .mv (.c (.nils)), none⟩,
        ⟨(some 5), .mv (.c (.nils)), none⟩,
        ⟨(some 6), .mv (.c (.int .i64 31)), none⟩] (some [4, 5, 6]))
      .ret)
      (.seq (.region [⟨(some 36), .mv (.t 0), none⟩,
        ⟨(some 37), .mv (.t 1), none⟩,
        ⟨(some 38), .call 96 [(.t 36), (.t 37)], none⟩,
        ⟨(some 39), .bin .lss (.t 38) (.c (.int .i64 0)), none⟩,
        ⟨(some 35), .mv (.t 39), none⟩] (some [0, 1, 35]))
      (.cond (.t 35)
        (.seq (.region [⟨(some 40), .mv (.t 0), none⟩,
          ⟨(some 41), .call 122 [(.t 40)], none⟩,
          ⟨(some 4), .mv (.c (.nils)), none⟩,
          ⟨(some 5), .mv (.t 41), none⟩,
          ⟨(some 6), .mv (.c (.int .i64 0)), none⟩] (some [4, 5, 6]))
        .ret)
        (.seq (.region [⟨(some 43), .mv (.t 1), none⟩,
          ⟨(some 44), .lenS (.t 43), none⟩,
          ⟨(some 45), .bin .eql (.t 44) (.c (.int .i64 1)), none⟩,
          ⟨(some 42), .mv (.t 45), none⟩] (some [0, 1, 42]))
        (.cond (.t 42)
          (.seq (.region [⟨(some 47), .mv (.t 0), none⟩,
            ⟨(some 48), .mv (.t 1), none⟩,
            ⟨(some 49), .ixA 1 (.t 48) (.c (.int .i64 0)), none⟩,
            ⟨(some 50), .ld none (.t 49), none⟩,
            ⟨(some 51), .call 145 [(.t 47), (.t 50)], none⟩,
            ⟨(some 46), .mv (.t 51), none⟩,
            ⟨(some 52), .ext (.t 46) 0, none⟩,
            ⟨(some 53), .ext (.t 46) 1, none⟩,
            ⟨(some 7), .mv (.t 52), none⟩,
            ⟨(some 8), .mv (.t 53), none⟩] (some [7, 8]))
          (.seq (.region [⟨(some 54), .mv (.t 7), none⟩,
            ⟨(some 55), .mv (.t 8), none⟩,
            ⟨(some 56), .cvt .u64 (.t 55), none⟩,
            ⟨(some 57), .call 88 [(.t 56)], none⟩,
            ⟨(some 4), .mv (.t 54), none⟩,
            ⟨(some 5), .mv (.t 57), none⟩,
            ⟨(some 6), .mv (.c (.int .i64 0)), none⟩] (some [4, 5, 6]))
          .ret))
          .skip)))))))
  (.seq (.region [⟨(some 58), .mv (.t 1), none⟩,
    ⟨(some 59), .mv (.t 1), none⟩,
    ⟨(some 60), .lenS (.t 59), none⟩,
    ⟨(some 61), .bin .sub (.t 60) (.c (.int .i64 1)), none⟩,
    ⟨(some 62), .ixA 1 (.t 58) (.t 61), none⟩,
    ⟨(some 63), .ld none (.t 62), none⟩,
    ⟨(some 64), .call 146 [(.t 63)], none⟩,
    ⟨(some 65), .cvt .u64 (.t 64), none⟩,
    ⟨(some 9), .mv (.t 65), none⟩] (some [0, 1, 9]))
  (.seq (.region [⟨(some 66), .mv (.t 0), none⟩,
    ⟨(some 67), .mv (.t 9), none⟩,
    ⟨(some 68), .call 147 [(.t 66), (.t 67)], none⟩,
    ⟨(some 69), .mv (.t 1), none⟩,
    ⟨(some 70), .mv (.t 9), none⟩,
    ⟨(some 71), .call 147 [(.t 69), (.t 70)], none⟩,
    ⟨(some 72), .call 123 [(.t 71)], none⟩,
    ⟨(some 10), .mv (.t 68), none⟩,
    ⟨(some 11), .mv (.t 72), none⟩] (some [9, 10, 11]))
  (.seq (.region [⟨(some 73), .mv (.t 11), none⟩,
    ⟨(some 74), .lenS (.t 73), none⟩,
    ⟨(some 12), .mv (.t 74), none⟩] (some [9, 10, 11, 12]))
  (.seq (.region [⟨(some 75), .mv (.t 10), none⟩,
    ⟨(some 76), .lenS (.t 75), none⟩,
    ⟨(some 77), .mv (.t 12), none⟩,
    ⟨(some 78), .bin .sub (.t 76) (.t 77), none⟩,
    ⟨(some 79), .mkSl 1 4 [.int .u32 0] (.t 78) (.t 78), none⟩,
    ⟨(some 13), .mv (.t 79), none⟩] (some [9, 10, 11, 12, 13]))
  (.seq (.seq (.region [⟨(some 80), .mv (.t 10), none⟩,
    ⟨(some 81), .lenS (.t 80), none⟩,
    ⟨(some 82), .mv (.t 12), none⟩,
    ⟨(some 83), .bin .sub (.t 81) (.t 82), none⟩,
    ⟨(some 84), .bin .sub (.t 83) (.c (.int .i64 1)), none⟩,
    ⟨(some 14), .mv (.t 84), none⟩] (some [9, 10, 11, 12, 13, 14]))
  (.block 1 (.loop (.seq (.seq (.region [⟨(some 85), .mv (.t 14), none⟩,
        ⟨(some 86), .bin .geq (.t 85) (.c (.int .i64 0)), none⟩] (some [9, 10, 11, 12, 13, 14, 86]))
      (.cond (.t 86)
        .skip
        (.exit 1)))
      (.seq (.block 2 (.seq (.region [⟨(some 89), .mv (.t 10), none⟩,
          ⟨(some 90), .mv (.t 14), none⟩,
          ⟨(some 91), .mv (.t 12), none⟩,
          ⟨(some 92), .bin .add (.t 90) (.t 91), none⟩,
          ⟨(some 93), .ixA 1 (.t 89) (.t 92), none⟩,
          ⟨(some 94), .ld none (.t 93), none⟩,
          ⟨(some 95), .cvt .u64 (.t 94), none⟩,
          ⟨(some 96), .bin .shl (.t 95) (.c (.int .u64 32)), none⟩,
          ⟨(some 97), .mv (.t 10), none⟩,
          ⟨(some 98), .mv (.t 14), none⟩,
          ⟨(some 99), .mv (.t 12), none⟩,
          ⟨(some 100), .bin .add (.t 98) (.t 99), none⟩,
          ⟨(some 101), .bin .sub (.t 100) (.c (.int .i64 1)), none⟩,
          ⟨(some 102), .ixA 1 (.t 97) (.t 101), none⟩,
          ⟨(some 103), .ld none (.t 102), none⟩,
          ⟨(some 104), .cvt .u64 (.t 103), none⟩,
          ⟨(some 105), .bin .or (.t 96) (.t 104), none⟩,
          ⟨(some 15), .mv (.t 105), none⟩] (some [9, 10, 11, 12, 13, 14, 15]))
        (.seq (.region [⟨(some 106), .mv (.t 15), none⟩,
          ⟨(some 107), .mv (.t 11), none⟩,
          ⟨(some 108), .mv (.t 12), none⟩,
          ⟨(some 109), .bin .sub (.t 108) (.c (.int .i64 1)), none⟩,
          ⟨(some 110), .ixA 1 (.t 107) (.t 109), none⟩,
          ⟨(some 111), .ld none (.t 110), none⟩,
          ⟨(some 112), .cvt .u64 (.t 111), none⟩,
          ⟨(some 113), .bin .quo (.t 106) (.t 112), none⟩,
          ⟨(some 114), .mv (.t 15), none⟩,
          ⟨(some 115), .mv (.t 11), none⟩,
          ⟨(some 116), .mv (.t 12), none⟩,
          ⟨(some 117), .bin .sub (.t 116) (.c (.int .i64 1)), none⟩,
          ⟨(some 118), .ixA 1 (.t 115) (.t 117), none⟩,
          ⟨(some 119), .ld none (.t 118), none⟩,
          ⟨(some 120), .cvt .u64 (.t 119), none⟩,
          ⟨(some 121), .bin .rem (.t 114) (.t 120), none⟩,
          ⟨(some 16), .mv (.t 113), none⟩,
          ⟨(some 17), .mv (.t 121), none⟩] (some [9, 10, 11, 12, 13, 14, 16, 17]))
        (.seq (.block 3 (.loop (.seq (.seq (.region [⟨(some 122), .mv (.t 16), none⟩,
              ⟨(some 123), .bin .geq (.t 122) (.c (.int .u64 4294967296)), none⟩,
              ⟨(some 124), .mv (.t 123), none⟩,
              ⟨(some 125), .mv (.t 16), (some (124, false))⟩,
              ⟨(some 126), .mv (.t 11), (some (124, false))⟩,
              ⟨(some 127), .mv (.t 12), (some (124, false))⟩,
              ⟨(some 128), .bin .sub (.t 127) (.c (.int .i64 2)), (some (124, false))⟩,
              ⟨(some 129), .ixA 1 (.t 126) (.t 128), (some (124, false))⟩,
              ⟨(some 130), .ld none (.t 129), (some (124, false))⟩,
              ⟨(some 131), .cvt .u64 (.t 130), (some (124, false))⟩,
              ⟨(some 132), .bin .mul (.t 125) (.t 131), (some (124, false))⟩,
              ⟨(some 133), .mv (.t 17), (some (124, false))⟩,
              ⟨(some 134), .bin .shl (.t 133) (.c (.int .u64 32)), (some (124, false))⟩,
              ⟨(some 135), .mv (.t 10), (some (124, false))⟩,
              ⟨(some 136), .mv (.t 14), (some (124, false))⟩,
              ⟨(some 137), .mv (.t 12), (some (124, false))⟩,
              ⟨(some 138), .bin .add (.t 136) (.t 137), (some (124, false))⟩,
              ⟨(some 139), .bin .sub (.t 138) (.c (.int .i64 2)), (some (124, false))⟩,
              ⟨(some 140), .ixA 1 (.t 135) (.t 139), (some (124, false))⟩,
              ⟨(some 141), .ld none (.t 140), (some (124, false))⟩,
              ⟨(some 142), .cvt .u64 (.t 141), (some (124, false))⟩,
              ⟨(some 143), .bin .or (.t 134) (.t 142), (some (124, false))⟩,
              ⟨(some 144), .bin .gtr (.t 132) (.t 143), (some (124, false))⟩,
              ⟨(some 145), .pick (.t 124) (.c (.bool true)) (.t 144), none⟩] (some [9, 10, 11, 12, 13, 14, 16, 17, 145]))
            (.cond (.t 145)
              .skip
              (.exit 3)))
            (.block 4 (.seq (.region [⟨(some 146), .mv (.t 16), none⟩,
                ⟨(some 147), .bin .sub (.t 146) (.c (.int .u64 1)), none⟩,
                ⟨(some 16), .mv (.t 147), none⟩] (some [9, 10, 11, 12, 13, 14, 16, 17]))
              (.seq (.region [⟨(some 148), .mv (.t 17), none⟩,
                ⟨(some 149), .mv (.t 11), none⟩,
                ⟨(some 150), .mv (.t 12), none⟩,
                ⟨(some 151), .bin .sub (.t 150) (.c (.int .i64 1)), none⟩,
                ⟨(some 152), .ixA 1 (.t 149) (.t 151), none⟩,
                ⟨(some 153), .ld none (.t 152), none⟩,
                ⟨(some 154), .cvt .u64 (.t 153), none⟩,
                ⟨(some 155), .bin .add (.t 148) (.t 154), none⟩,
                ⟨(some 17), .mv (.t 155), none⟩] (some [9, 10, 11, 12, 13, 14, 16, 17]))
              (.seq (.region [⟨(some 156), .mv (.t 17), none⟩,
                ⟨(some 157), .bin .geq (.t 156) (.c (.int .u64 4294967296)), none⟩] (some [9, 10, 11, 12, 13, 14, 16, 17, 157]))
              (.cond (.t 157)
                (.exit 3)
                .skip))))))))
        (.seq (.region [⟨(some 18), .mv (.c (.int .u64 0)), none⟩,
          ⟨(some 19), .mv (.c (.int .u64 0)), none⟩] (some [9, 10, 11, 12, 13, 14, 16, 18, 19]))
        (.seq (.seq (.region [⟨(some 158), .mv (.t 12), none⟩,
          ⟨(some 159), .mv (.c (.int .i64 0)), none⟩] (some [9, 10, 11, 12, 13, 14, 16, 18, 19, 158, 159]))
        (.block 5 (.loop (.seq (.region [⟨(some 160), .bin .lss (.t 159) (.t 158), none⟩] (some [9, 10, 11, 12, 13, 14, 16, 18, 19, 158, 159, 160]))
            (.seq (.cond (.t 160)
              .skip
              (.exit 5))
            (.seq (.block 6 (.seq (.region [⟨(some 161), .mv (.t 159), none⟩,
                ⟨(some 20), .mv (.t 161), none⟩] (some [9, 10, 11, 12, 13, 14, 16, 18, 19, 20, 158, 159]))
              (.seq (.region [⟨(some 162), .mv (.t 19), none⟩,
                ⟨(some 163), .mv (.t 16), none⟩,
                ⟨(some 164), .mv (.t 11), none⟩,
                ⟨(some 165), .mv (.t 20), none⟩,
                ⟨(some 166), .ixA 1 (.t 164) (.t 165), none⟩,
                ⟨(some 167), .ld none (.t 166), none⟩,
                ⟨(some 168), .cvt .u64 (.t 167), none⟩,
                ⟨(some 169), .bin .mul (.t 163) (.t 168), none⟩,
                ⟨(some 170), .bin .add (.t 162) (.t 169), none⟩,
                ⟨(some 19), .mv (.t 170), none⟩] (some [9, 10, 11, 12, 13, 14, 16, 18, 19, 20, 158, 159]))
              (.seq (.region [⟨(some 171), .mv (.t 19), none⟩,
                ⟨(some 172), .bin .and (.t 171) (.c (.int .u64 4294967295)), none⟩,
                ⟨(some 173), .mv (.t 18), none⟩,
                ⟨(some 174), .bin .add (.t 172) (.t 173), none⟩,
                ⟨(some 21), .mv (.t 174), none⟩] (some [9, 10, 11, 12, 13, 14, 16, 19, 20, 21, 158, 159]))
              (.seq (.region [⟨(some 18), .mv (.c (.int .u64 0)), none⟩] (some [9, 10, 11, 12, 13, 14, 16, 18, 19, 20, 21, 158, 159]))
              (.seq (.seq (.region [⟨(some 175), .mv (.t 10), none⟩,
                ⟨(some 176), .mv (.t 20), none⟩,
                ⟨(some 177), .mv (.t 14), none⟩,
                ⟨(some 178), .bin .add (.t 176) (.t 177), none⟩,
                ⟨(some 179), .ixA 1 (.t 175) (.t 178), none⟩,
                ⟨(some 180), .ld none (.t 179), none⟩,
                ⟨(some 181), .cvt .u64 (.t 180), none⟩,
                ⟨(some 182), .mv (.t 21), none⟩,
                ⟨(some 183), .bin .lss (.t 181) (.t 182), none⟩] (some [9, 10, 11, 12, 13, 14, 16, 18, 19, 20, 21, 158, 159, 183]))
              (.cond (.t 183)
                (.region [⟨(some 18), .mv (.c (.int .u64 1)), none⟩] (some [9, 10, 11, 12, 13, 14, 16, 18, 19, 20, 21, 158, 159]))
                .skip))
              (.seq (.region [⟨(some 184), .mv (.t 10), none⟩,
                ⟨(some 185), .mv (.t 20), none⟩,
                ⟨(some 186), .mv (.t 14), none⟩,
                ⟨(some 187), .bin .add (.t 185) (.t 186), none⟩,
                ⟨(some 188), .mv (.t 10), none⟩,
                ⟨(some 189), .mv (.t 20), none⟩,
                ⟨(some 190), .mv (.t 14), none⟩,
                ⟨(some 191), .bin .add (.t 189) (.t 190), none⟩,
                ⟨(some 192), .ixA 1 (.t 188) (.t 191), none⟩,
                ⟨(some 193), .ld none (.t 192), none⟩,
                ⟨(some 194), .cvt .u64 (.t 193), none⟩,
                ⟨(some 195), .mv (.t 18), none⟩,
                ⟨(some 196), .bin .shl (.t 195) (.c (.int .u64 32)), none⟩,
                ⟨(some 197), .bin .add (.t 194) (.t 196), none⟩,
                ⟨(some 198), .mv (.t 21), none⟩,
                ⟨(some 199), .bin .sub (.t 197) (.t 198), none⟩,
                ⟨(some 200), .cvt .u32 (.t 199), none⟩,
                ⟨(some 201), .ixA 1 (.t 184) (.t 187), none⟩,
                ⟨none, .st 1 (.t 201) (.t 200), none⟩] (some [9, 10, 11, 12, 13, 14, 16, 18, 19, 158, 159]))
              (.region [⟨(some 202), .mv (.t 19), none⟩,
                ⟨(some 203), .bin .shr (.t 202) (.c (.int .u64 32)), none⟩,
                ⟨(some 19), .mv (.t 203), none⟩] (some [9, 10, 11, 12, 13, 14, 16, 18, 19, 158, 159])))))))))
            (.region [⟨(some 204), .bin .add (.t 159) (.c (.int .i64 1)), none⟩,
              ⟨(some 159), .mv (.t 204), none⟩] (some [9, 10, 11, 12, 13, 14, 16, 18, 19, 158, 159]))))))))
        (.seq (.region [⟨(some 205), .mv (.t 19), none⟩,
          ⟨(some 206), .mv (.t 18), none⟩,
          ⟨(some 207), .bin .add (.t 205) (.t 206), none⟩,
          ⟨(some 22), .mv (.t 207), none⟩] (some [9, 10, 11, 12, 13, 14, 16, 22]))
        (.seq (.region [⟨(some 208), .mv (.t 10), none⟩,
          ⟨(some 209), .mv (.t 14), none⟩,
          ⟨(some 210), .mv (.t 12), none⟩,
          ⟨(some 211), .bin .add (.t 209) (.t 210), none⟩,
          ⟨(some 212), .ixA 1 (.t 208) (.t 211), none⟩,
          ⟨(some 213), .ld none (.t 212), none⟩,
          ⟨(some 214), .cvt .u64 (.t 213), none⟩,
          ⟨(some 215), .mv (.t 22), none⟩,
          ⟨(some 216), .bin .lss (.t 214) (.t 215), none⟩,
          ⟨(some 23), .mv (.t 216), none⟩] (some [9, 10, 11, 12, 13, 14, 16, 22, 23]))
        (.seq (.region [⟨(some 217), .mv (.t 10), none⟩,
          ⟨(some 218), .mv (.t 14), none⟩,
          ⟨(some 219), .mv (.t 12), none⟩,
          ⟨(some 220), .bin .add (.t 218) (.t 219), none⟩,
          ⟨(some 221), .mv (.t 10), none⟩,
          ⟨(some 222), .mv (.t 14), none⟩,
          ⟨(some 223), .mv (.t 12), none⟩,
          ⟨(some 224), .bin .add (.t 222) (.t 223), none⟩,
          ⟨(some 225), .ixA 1 (.t 221) (.t 224), none⟩,
          ⟨(some 226), .ld none (.t 225), none⟩,
          ⟨(some 227), .cvt .u64 (.t 226), none⟩,
          ⟨(some 228), .mv (.t 22), none⟩,
          ⟨(some 229), .bin .sub (.t 227) (.t 228), none⟩,
          ⟨(some 230), .cvt .u32 (.t 229), none⟩,
          ⟨(some 231), .ixA 1 (.t 217) (.t 220), none⟩,
          ⟨none, .st 1 (.t 231) (.t 230), none⟩] (some [9, 10, 11, 12, 13, 14, 16, 23]))
        (.seq (.seq (.region [⟨(some 232), .mv (.t 23), none⟩] (some [9, 10, 11, 12, 13, 14, 16, 232]))
        (.cond (.t 232)
          (.seq (.region [⟨(some 233), .mv (.t 16), none⟩,
            ⟨(some 234), .bin .sub (.t 233) (.c (.int .u64 1)), none⟩,
            ⟨(some 16), .mv (.t 234), none⟩] (some [9, 10, 11, 12, 13, 14, 16]))
          (.seq (.region [⟨(some 19), .mv (.c (.int .u64 0)), none⟩] (some [9, 10, 11, 12, 13, 14, 16, 19]))
          (.seq (.seq (.region [⟨(some 235), .mv (.t 12), none⟩,
            ⟨(some 236), .mv (.c (.int .i64 0)), none⟩] (some [9, 10, 11, 12, 13, 14, 16, 19, 235, 236]))
          (.block 7 (.loop (.seq (.region [⟨(some 237), .bin .lss (.t 236) (.t 235), none⟩] (some [9, 10, 11, 12, 13, 14, 16, 19, 235, 236, 237]))
              (.seq (.cond (.t 237)
                .skip
                (.exit 7))
              (.seq (.block 8 (.seq (.region [⟨(some 238), .mv (.t 236), none⟩,
                  ⟨(some 24), .mv (.t 238), none⟩] (some [9, 10, 11, 12, 13, 14, 16, 19, 24, 235, 236]))
                (.seq (.region [⟨(some 239), .mv (.t 19), none⟩,
                  ⟨(some 240), .mv (.t 10), none⟩,
                  ⟨(some 241), .mv (.t 24), none⟩,
                  ⟨(some 242), .mv (.t 14), none⟩,
                  ⟨(some 243), .bin .add (.t 241) (.t 242), none⟩,
                  ⟨(some 244), .ixA 1 (.t 240) (.t 243), none⟩,
                  ⟨(some 245), .ld none (.t 244), none⟩,
                  ⟨(some 246), .cvt .u64 (.t 245), none⟩,
                  ⟨(some 247), .mv (.t 11), none⟩,
                  ⟨(some 248), .mv (.t 24), none⟩,
                  ⟨(some 249), .ixA 1 (.t 247) (.t 248), none⟩,
                  ⟨(some 250), .ld none (.t 249), none⟩,
                  ⟨(some 251), .cvt .u64 (.t 250), none⟩,
                  ⟨(some 252), .bin .add (.t 246) (.t 251), none⟩,
                  ⟨(some 253), .bin .add (.t 239) (.t 252), none⟩,
                  ⟨(some 19), .mv (.t 253), none⟩] (some [9, 10, 11, 12, 13, 14, 16, 19, 24, 235, 236]))
                (.seq (.region [⟨(some 254), .mv (.t 10), none⟩,
                  ⟨(some 255), .mv (.t 24), none⟩,
                  ⟨(some 256), .mv (.t 14), none⟩,
                  ⟨(some 257), .bin .add (.t 255) (.t 256), none⟩,
                  ⟨(some 258), .mv (.t 19), none⟩,
                  ⟨(some 259), .cvt .u32 (.t 258), none⟩,
                  ⟨(some 260), .ixA 1 (.t 254) (.t 257), none⟩,
                  ⟨none, .st 1 (.t 260) (.t 259), none⟩] (some [9, 10, 11, 12, 13, 14, 16, 19, 235, 236]))
                (.region [⟨(some 261), .mv (.t 19), none⟩,
                  ⟨(some 262), .bin .shr (.t 261) (.c (.int .u64 32)), none⟩,
                  ⟨(some 19), .mv (.t 262), none⟩] (some [9, 10, 11, 12, 13, 14, 16, 19, 235, 236]))))))
              (.region [⟨(some 263), .bin .add (.t 236) (.c (.int .i64 1)), none⟩,
                ⟨(some 236), .mv (.t 263), none⟩] (some [9, 10, 11, 12, 13, 14, 16, 19, 235, 236]))))))))
          (.region [⟨(some 264), .mv (.t 10), none⟩,
            ⟨(some 265), .mv (.t 14), none⟩,
            ⟨(some 266), .mv (.t 12), none⟩,
            ⟨(some 267), .bin .add (.t 265) (.t 266), none⟩,
            ⟨(some 268), .ixA 1 (.t 264) (.t 267), none⟩,
            ⟨(some 269), .ld none (.t 268), none⟩,
            ⟨(some 270), .mv (.t 19), none⟩,
            ⟨(some 271), .cvt .u32 (.t 270), none⟩,
            ⟨(some 272), .bin .add (.t 269) (.t 271), none⟩,
            ⟨(some 273), .ixA 1 (.t 264) (.t 267), none⟩,
            ⟨none, .st 1 (.t 273) (.t 272), none⟩] (some [9, 10, 11, 12, 13, 14, 16])))))
          .skip))
        (.region [⟨(some 274), .mv (.t 13), none⟩,
          ⟨(some 275), .mv (.t 14), none⟩,
          ⟨(some 276), .mv (.t 16), none⟩,
          ⟨(some 277), .cvt .u32 (.t 276), none⟩,
          ⟨(some 278), .ixA 1 (.t 274) (.t 275), none⟩,
          ⟨none, .st 1 (.t 278) (.t 277), none⟩] (some [9, 10, 11, 12, 13, 14]))))))))))))
      (.region [⟨(some 87), .mv (.t 14), none⟩,
        ⟨(some 88), .bin .sub (.t 87) (.c (.int .i64 1)), none⟩,
        ⟨(some 14), .mv (.t 88), none⟩] (some [9, 10, 11, 12, 13, 14])))))))
  (.seq (.region [⟨(some 279), .mv (.t 12), none⟩,
    ⟨(some 280), .mkSl 1 4 [.int .u32 0] (.t 279) (.t 279), none⟩,
    ⟨(some 25), .mv (.t 280), none⟩] (some [9, 10, 12, 13, 25]))
  (.seq (.seq (.region [⟨(some 281), .mv (.t 12), none⟩,
    ⟨(some 282), .mv (.c (.int .i64 0)), none⟩] (some [9, 10, 13, 25, 281, 282]))
  (.block 9 (.loop (.seq (.region [⟨(some 283), .bin .lss (.t 282) (.t 281), none⟩] (some [9, 10, 13, 25, 281, 282, 283]))
      (.seq (.cond (.t 283)
        .skip
        (.exit 9))
      (.seq (.block 10 (.seq (.region [⟨(some 284), .mv (.t 282), none⟩,
          ⟨(some 26), .mv (.t 284), none⟩] (some [9, 10, 13, 25, 26, 281, 282]))
        (.seq (.region [⟨(some 285), .mv (.t 25), none⟩,
          ⟨(some 286), .mv (.t 26), none⟩,
          ⟨(some 287), .mv (.t 10), none⟩,
          ⟨(some 288), .mv (.t 26), none⟩,
          ⟨(some 289), .ixA 1 (.t 287) (.t 288), none⟩,
          ⟨(some 290), .ld none (.t 289), none⟩,
          ⟨(some 291), .mv (.t 9), none⟩,
          ⟨(some 292), .bin .shr (.t 290) (.t 291), none⟩,
          ⟨(some 293), .ixA 1 (.t 285) (.t 286), none⟩,
          ⟨none, .st 1 (.t 293) (.t 292), none⟩] (some [9, 10, 13, 25, 26, 281, 282]))
        (.seq (.region [⟨(some 294), .mv (.t 9), none⟩,
          ⟨(some 295), .bin .gtr (.t 294) (.c (.int .u64 0)), none⟩] (some [9, 10, 13, 25, 26, 281, 282, 295]))
        (.cond (.t 295)
          (.region [⟨(some 296), .mv (.t 25), none⟩,
            ⟨(some 297), .mv (.t 26), none⟩,
            ⟨(some 298), .ixA 1 (.t 296) (.t 297), none⟩,
            ⟨(some 299), .ld none (.t 298), none⟩,
            ⟨(some 300), .mv (.t 10), none⟩,
            ⟨(some 301), .mv (.t 26), none⟩,
            ⟨(some 302), .bin .add (.t 301) (.c (.int .i64 1)), none⟩,
            ⟨(some 303), .ixA 1 (.t 300) (.t 302), none⟩,
            ⟨(some 304), .ld none (.t 303), none⟩,
            ⟨(some 305), .mv (.t 9), none⟩,
            ⟨(some 306), .bin .sub (.c (.int .u64 32)) (.t 305), none⟩,
            ⟨(some 307), .bin .shl (.t 304) (.t 306), none⟩,
            ⟨(some 308), .bin .or (.t 299) (.t 307), none⟩,
            ⟨(some 309), .ixA 1 (.t 296) (.t 297), none⟩,
            ⟨none, .st 1 (.t 309) (.t 308), none⟩] (some [9, 10, 13, 25, 281, 282]))
          .skip)))))
      (.region [⟨(some 310), .bin .add (.t 282) (.c (.int .i64 1)), none⟩,
        ⟨(some 282), .mv (.t 310), none⟩] (some [9, 10, 13, 25, 281, 282]))))))))
  (.seq (.region [⟨(some 311), .mv (.t 13), none⟩,
    ⟨(some 312), .call 123 [(.t 311)], none⟩,
    ⟨(some 313), .mv (.t 25), none⟩,
    ⟨(some 314), .call 123 [(.t 313)], none⟩,
    ⟨(some 4), .mv (.t 312), none⟩,
    ⟨(some 5), .mv (.t 314), none⟩,
    ⟨(some 6), .mv (.c (.int .i64 0)), none⟩] (some [4, 5, 6]))
  .ret))))))))))), [.t 4, .t 5, .t 6]⟩
theorem nat_Div_ok : cFn Tryz.prog (kps [[0, 1], [0, 1], [0, 1, 31], [4, 5, 6], [0, 1, 35], [4, 5, 6], [0, 1, 42], [7, 8], [4, 5, 6], [0, 1, 9], [9, 10, 11], [9, 10, 11, 12], [9, 10, 11, 12, 13], [9, 10, 11, 12, 13, 14], [9, 10, 11, 12, 13, 14, 86], [9, 10, 11, 12, 13, 14], [9, 10, 11, 12, 13, 14, 15], [9, 10, 11, 12, 13, 14, 16, 17], [9, 10, 11, 12, 13, 14, 16, 17, 145], [9, 10, 11, 12, 13, 14, 16, 17], [9, 10, 11, 12, 13, 14, 16, 17], [9, 10, 11, 12, 13, 14, 16, 17, 157], [9, 10, 11, 12, 13, 14, 16, 18, 19], [9, 10, 11, 12, 13, 14, 16, 18, 19, 158, 159], [9, 10, 11, 12, 13, 14, 16, 18, 19, 158, 159, 160], [9, 10, 11, 12, 13, 14, 16, 18, 19, 20, 158, 159], [9, 10, 11, 12, 13, 14, 16, 18, 19, 20, 158, 159], [9, 10, 11, 12, 13, 14, 16, 19, 20, 21, 158, 159], [9, 10, 11, 12, 13, 14, 16, 18, 19, 20, 21, 158, 159], [9, 10, 11, 12, 13, 14, 16, 18, 19, 20, 21, 158, 159, 183], [9, 10, 11, 12, 13, 14, 16, 18, 19, 20, 21, 158, 159], [9, 10, 11, 12, 13, 14, 16, 18, 19, 158, 159], [9, 10, 11, 12, 13, 14, 16, 18, 19, 158, 159], [9, 10, 11, 12, 13, 14, 16, 18, 19, 158, 159], [9, 10, 11, 12, 13, 14, 16, 22], [9, 10, 11, 12, 13, 14, 16, 22, 23], [9, 10, 11, 12, 13, 14, 16, 23], [9, 10, 11, 12, 13, 14, 16, 232], [9, 10, 11, 12, 13, 14, 16], [9, 10, 11, 12, 13, 14, 16, 19], [9, 10, 11, 12, 13, 14, 16, 19, 235, 236], [9, 10, 11, 12, 13, 14, 16, 19, 235, 236, 237], [9, 10, 11, 12, 13, 14, 16, 19, 24, 235, 236], [9, 10, 11, 12, 13, 14, 16, 19, 24, 235, 236], [9, 10, 11, 12, 13, 14, 16, 19, 235, 236], [9, 10, 11, 12, 13, 14, 16, 19, 235, 236], [9, 10, 11, 12, 13, 14, 16, 19, 235, 236], [9, 10, 11, 12, 13, 14, 16], [9, 10, 11, 12, 13, 14], [9, 10, 12, 13, 25], [9, 10, 13, 25, 281, 282], [9, 10, 13, 25, 281, 282, 283], [9, 10, 13, 25, 26, 281, 282], [9, 10, 13, 25, 26, 281, 282], [9, 10, 13, 25, 26, 281, 282, 295], [9, 10, 13, 25, 281, 282], [9, 10, 13, 25, 281, 282], [4, 5, 6]]) [] 127 = some nat_Div_c := by kernel_rfl

abbrev nat_Gcd : Nat := 95
def nat_Gcd_c : MFn :=
  ⟨26, (.seq (.region [⟨(some 4), .mv (.c (.nils)), none⟩] (some [0, 1]))
  (.seq (.region [⟨(some 8), .mv (.t 0), none⟩,
    ⟨(some 9), .call 123 [(.t 8)], none⟩,
    ⟨(some 10), .mv (.t 1), none⟩,
    ⟨(some 11), .call 123 [(.t 10)], none⟩,
    ⟨(some 0), .mv (.t 9), none⟩,
    ⟨(some 1), .mv (.t 11), none⟩] (some [0, 1]))
  (.seq (.block 0 (.loop (.seq (.seq (.region [⟨(some 12), .mv (.t 1), none⟩,
        ⟨(some 13), .lenS (.t 12), none⟩,
        ⟨(some 14), .bin .gtr (.t 13) (.c (.int .i64 0)), none⟩] (some [0, 1, 14]))
      (.cond (.t 14)
        .skip
        (.exit 0)))
      (.block 1 (.seq (.region [⟨(some 16), .mv (.t 0), none⟩,
          ⟨(some 17), .mv (.t 1), none⟩,
          ⟨(some 18), .call 127 [(.t 16), (.t 17)], none⟩,
          ⟨(some 15), .mv (.t 18), none⟩,
          ⟨(some 19), .ext (.t 15) 0, none⟩,
          ⟨(some 20), .ext (.t 15) 1, none⟩,
          ⟨(some 21), .ext (.t 15) 2, none⟩,
          ⟨(some 5), .mv (.t 19), none⟩,
          ⟨(some 6), .mv (.t 20), none⟩,
          ⟨(some 7), .mv (.t 21), none⟩] (some [1, 6]))
        (.region [⟨(some 22), .mv (.t 1), none⟩,
          ⟨(some 23), .mv (.t 6), none⟩,
          ⟨(some 0), .mv (.t 22), none⟩,
          ⟨(some 1), .mv (.t 23), none⟩] (some [0, 1])))))))
  (.seq (.region [⟨(some 24), .mv (.t 0), none⟩,
    ⟨(some 25), .call 122 [(.t 24)], none⟩,
    ⟨(some 4), .mv (.t 25), none⟩] (some [4]))
  .ret)))), [.t 4]⟩
theorem nat_Gcd_ok : cFn Tryz.prog (kps [[0, 1], [0, 1], [0, 1, 14], [1, 6], [0, 1], [4]]) [] 95 = some nat_Gcd_c := by kernel_rfl

abbrev slices_Clone_Nat_uint32 : Nat := 122
def slices_Clone_Nat_uint32_c : MFn :=
  ⟨8, (.seq (.region [⟨(some 2), .mv (.c (.nils)), none⟩] (some [0]))
  (.seq (.seq (.region [⟨(some 3), .mv (.t 0), none⟩,
    ⟨(some 4), .binS .eql (.t 3) (.c (.nils)), none⟩] (some [0, 4]))
  (.cond (.t 4)
    (.seq (.region [⟨(some 2), .mv (.c (.nils)), none⟩] (some [2]))
    .ret)
    .skip))
  (.seq (.region [⟨(some 5), .buildSl 1 0 [.int .u32 0] [], none⟩,
    ⟨(some 6), .mv (.t 0), none⟩,
    ⟨(some 7), .app 1 4 (.t 5) (.t 6), none⟩,
    ⟨(some 2), .mv (.t 7), none⟩] (some [2]))
  .ret))), [.t 2]⟩
theorem slices_Clone_Nat_uint32_ok : cFn Tryz.prog (kps [[0], [0, 4], [2], [2]]) [] 122 = some slices_Clone_Nat_uint32_c := by kernel_rfl

abbrev math_bits_LeadingZeros32 : Nat := 146
def math_bits_LeadingZeros32_c : MFn :=
  ⟨6, (.seq (.region [⟨(some 2), .mv (.c (.int .i64 0)), none⟩] (some [0]))
  (.seq (.region [⟨(some 3), .mv (.t 0), none⟩,
    ⟨(some 4), .call 152 [(.t 3)], none⟩,
    ⟨(some 5), .bin .sub (.c (.int .i64 32)) (.t 4), none⟩,
    ⟨(some 2), .mv (.t 5), none⟩] (some [2]))
  .ret)), [.t 2]⟩
theorem math_bits_LeadingZeros32_ok : cFn Tryz.prog (kps [[0], [2]]) [] 146 = some math_bits_LeadingZeros32_c := by kernel_rfl

abbrev math_bits_Len32 : Nat := 152
def math_bits_Len32_c : MFn :=
  ⟨19, (.seq (.region [⟨(some 2), .mv (.c (.int .i64 0)), none⟩] (some [0, 2]))
  (.seq (.seq (.region [⟨(some 3), .mv (.t 0), none⟩,
    ⟨(some 4), .bin .geq (.t 3) (.c (.int .u32 65536)), none⟩] (some [0, 2, 4]))
  (.cond (.t 4)
    (.seq (.region [⟨(some 5), .mv (.t 0), none⟩,
      ⟨(some 6), .bin .shr (.t 5) (.c (.int .u64 16)), none⟩,
      ⟨(some 0), .mv (.t 6), none⟩] (some [0]))
    (.region [⟨(some 2), .mv (.c (.int .i64 16)), none⟩] (some [0, 2])))
    .skip))
  (.seq (.seq (.region [⟨(some 7), .mv (.t 0), none⟩,
    ⟨(some 8), .bin .geq (.t 7) (.c (.int .u32 256)), none⟩] (some [0, 2, 8]))
  (.cond (.t 8)
    (.seq (.region [⟨(some 9), .mv (.t 0), none⟩,
      ⟨(some 10), .bin .shr (.t 9) (.c (.int .u64 8)), none⟩,
      ⟨(some 0), .mv (.t 10), none⟩] (some [0, 2]))
    (.region [⟨(some 11), .mv (.t 2), none⟩,
      ⟨(some 12), .bin .add (.t 11) (.c (.int .i64 8)), none⟩,
      ⟨(some 2), .mv (.t 12), none⟩] (some [0, 2])))
    .skip))
  (.seq (.region [⟨(some 13), .mv (.t 2), none⟩,
    ⟨(some 14), .mv (.t 0), none⟩,
    ⟨(some 15), .cvt .u8 (.t 14), none⟩,
    ⟨(some 16), .ixS (.c (.str ⟨#[0, 1, 2, 2, 3, 3, 3, 3, 4, 4, 4, 4, 4, 4, 4, 4, 5, 5, 5, 5, 5, 5, 5, 5, 5, 5, 5, 5, 5, 5, 5, 5, 6, 6, 6, 6, 6, 6, 6, 6, 6, 6, 6, 6, 6, 6, 6, 6, 6, 6, 6, 6, 6, 6, 6, 6, 6, 6, 6, 6, 6, 6, 6, 6, 7, 7, 7, 7, 7, 7, 7, 7, 7, 7, 7, 7, 7, 7, 7, 7, 7, 7, 7, 7, 7, 7, 7, 7, 7, 7, 7, 7, 7, 7, 7, 7, 7, 7, 7, 7, 7, 7, 7, 7, 7, 7, 7, 7, 7, 7, 7, 7, 7, 7, 7, 7, 7, 7, 7, 7, 7, 7, 7, 7, 7, 7, 7, 7, 8, 8, 8, 8, 8, 8, 8, 8, 8, 8, 8, 8, 8, 8, 8, 8, 8, 8, 8, 8, 8, 8, 8, 8, 8, 8, 8, 8, 8, 8, 8, 8, 8, 8, 8, 8, 8, 8, 8, 8, 8, 8, 8, 8, 8, 8, 8, 8, 8, 8, 8, 8, 8, 8, 8, 8, 8, 8, 8, 8, 8, 8, 8, 8, 8, 8, 8, 8, 8, 8, 8, 8, 8, 8, 8, 8, 8, 8, 8, 8, 8, 8, 8, 8, 8, 8, 8, 8, 8, 8, 8, 8, 8, 8, 8, 8, 8, 8, 8, 8, 8, 8, 8, 8, 8, 8, 8, 8, 8, 8, 8, 8, 8, 8, 8, 8, 8, 8, 8, 8, 8, 8, 8, 8, 8, 8, 8, 8]⟩)) (.t 15), none⟩,
    ⟨(some 17), .cvt .i64 (.t 16), none⟩,
    ⟨(some 18), .bin .add (.t 13) (.t 17), none⟩,
    ⟨(some 2), .mv (.t 18), none⟩] (some [2]))
  .ret)))), [.t 2]⟩
theorem math_bits_Len32_ok : cFn Tryz.prog (kps [[0, 2], [0, 2, 4], [0], [0, 2], [0, 2, 8], [0, 2], [0, 2], [2]]) [] 152 = some math_bits_Len32_c := by kernel_rfl

end Go.Proofs.YtnneehniendnfaaGreat.F
