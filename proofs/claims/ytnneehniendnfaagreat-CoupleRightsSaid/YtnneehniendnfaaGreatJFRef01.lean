import Derived.Test.YtnneehniendnfaaGreatGC
import Derived.Test.YtnneehniendnfaaGreatProg
import Derived.KernelRfl
/-! Functions of the program, as the engine reads them: written by gen.py out of the engine's own print; each is held against the translation by the kernel. -/
namespace Go.Proofs.YtnneehniendnfaaGreat.F
open Go Go.Proofs Go.Proofs.YtnneehniendnfaaGreat.E
abbrev ref01_trim : Nat := 115
def ref01_trim_c : MFn :=
  ⟨22, (.seq (.region [⟨(some 2), .mv (.c (.nils)), none⟩] (some [0]))
  (.seq (.region [⟨(some 4), .mv (.t 0), none⟩,
    ⟨(some 5), .lenS (.t 4), none⟩,
    ⟨(some 3), .mv (.t 5), none⟩] (some [0, 3]))
  (.seq (.block 0 (.loop (.seq (.seq (.region [⟨(some 6), .mv (.t 3), none⟩,
        ⟨(some 7), .bin .gtr (.t 6) (.c (.int .i64 0)), none⟩,
        ⟨(some 8), .mv (.t 7), none⟩,
        ⟨(some 9), .mv (.t 0), (some (8, true))⟩,
        ⟨(some 10), .mv (.t 3), (some (8, true))⟩,
        ⟨(some 11), .bin .sub (.t 10) (.c (.int .i64 1)), (some (8, true))⟩,
        ⟨(some 12), .ixA 1 (.t 9) (.t 11), (some (8, true))⟩,
        ⟨(some 13), .ld none (.t 12), (some (8, true))⟩,
        ⟨(some 14), .bin .eql (.t 13) (.c (.int .u32 0)), (some (8, true))⟩,
        ⟨(some 15), .pick (.t 8) (.t 14) (.c (.bool false)), none⟩] (some [0, 3, 15]))
      (.cond (.t 15)
        .skip
        (.exit 0)))
      (.block 1 (.region [⟨(some 16), .mv (.t 3), none⟩,
          ⟨(some 17), .bin .sub (.t 16) (.c (.int .i64 1)), none⟩,
          ⟨(some 3), .mv (.t 17), none⟩] (some [0, 3]))))))
  (.seq (.region [⟨(some 18), .mv (.t 0), none⟩,
    ⟨(some 19), .mv (.t 3), none⟩,
    ⟨(some 20), .slc 1 (.t 18) none (some (.t 19)) none, none⟩,
    ⟨(some 21), .app 1 4 (.c (.nils)) (.t 20), none⟩,
    ⟨(some 2), .mv (.t 21), none⟩] (some [2]))
  .ret)))), [.t 2]⟩
theorem ref01_trim_ok : cFn Tryz.prog (kps [[0], [0, 3], [0, 3, 15], [0, 3], [2]]) [] 115 = some ref01_trim_c := by kernel_rfl

abbrev ref01_Right : Nat := 105
def ref01_Right_c : MFn :=
  ⟨15, (.seq (.region [⟨(some 2), .mv (.c (.bool false)), none⟩] (some [0]))
  (.seq (.region [⟨(some 3), .mv (.t 0), none⟩,
    ⟨(some 4), .lenS (.t 3), none⟩,
    ⟨(some 5), .bin .eql (.t 4) (.c (.int .i64 0)), none⟩,
    ⟨(some 6), .mv (.t 5), none⟩,
    ⟨(some 7), .mv (.t 0), (some (6, false))⟩,
    ⟨(some 8), .mv (.t 0), (some (6, false))⟩,
    ⟨(some 9), .lenS (.t 8), (some (6, false))⟩,
    ⟨(some 10), .bin .sub (.t 9) (.c (.int .i64 1)), (some (6, false))⟩,
    ⟨(some 11), .ixA 1 (.t 7) (.t 10), (some (6, false))⟩,
    ⟨(some 12), .ld none (.t 11), (some (6, false))⟩,
    ⟨(some 13), .bin .neq (.t 12) (.c (.int .u32 0)), (some (6, false))⟩,
    ⟨(some 14), .pick (.t 6) (.c (.bool true)) (.t 13), none⟩,
    ⟨(some 2), .mv (.t 14), none⟩] (some [2]))
  .ret)), [.t 2]⟩
theorem ref01_Right_ok : cFn Tryz.prog (kps [[0], [2]]) [] 105 = some ref01_Right_c := by kernel_rfl

abbrev ref01_Of : Nat := 72
def ref01_Of_c : MFn :=
  ⟨10, (.seq (.region [⟨(some 2), .mv (.c (.nils)), none⟩] (some [0]))
  (.seq (.region [⟨(some 3), .mv (.t 0), none⟩,
    ⟨(some 4), .cvt .u32 (.t 3), none⟩,
    ⟨(some 5), .mv (.t 0), none⟩,
    ⟨(some 6), .bin .shr (.t 5) (.c (.int .u64 32)), none⟩,
    ⟨(some 7), .cvt .u32 (.t 6), none⟩,
    ⟨(some 8), .buildSl 1 2 [.int .u32 0] [(0, (.t 4)), (1, (.t 7))], none⟩,
    ⟨(some 9), .call 115 [(.t 8)], none⟩,
    ⟨(some 2), .mv (.t 9), none⟩] (some [2]))
  .ret)), [.t 2]⟩
theorem ref01_Of_ok : cFn Tryz.prog (kps [[0], [2]]) [] 72 = some ref01_Of_c := by kernel_rfl

abbrev ref01_Small : Nat := 133
def ref01_Small_c : MFn :=
  ⟨28, (.seq (.region [⟨(some 2), .mv (.c (.int .u64 0)), none⟩,
    ⟨(some 3), .mv (.c (.bool false)), none⟩] (some [0]))
  (.seq (.region [⟨(some 4), .mv (.t 0), none⟩,
    ⟨(some 5), .call 115 [(.t 4)], none⟩,
    ⟨(some 0), .mv (.t 5), none⟩] (some [0]))
  (.seq (.seq (.region [⟨(some 6), .mv (.t 0), none⟩,
    ⟨(some 7), .lenS (.t 6), none⟩] (some [0, 7]))
  (.block 0 (.seq (.region [⟨(some 9), .bin .eql (.t 7) (.c (.int .i64 0)), none⟩,
      ⟨(some 8), .mv (.t 9), none⟩] (some [0, 7, 8]))
    (.cond (.t 8)
      (.seq (.region [⟨(some 2), .mv (.c (.int .u64 0)), none⟩,
        ⟨(some 3), .mv (.c (.bool true)), none⟩] (some [2, 3]))
      .ret)
      (.seq (.region [⟨(some 11), .bin .eql (.t 7) (.c (.int .i64 1)), none⟩,
        ⟨(some 10), .mv (.t 11), none⟩] (some [0, 7, 10]))
      (.cond (.t 10)
        (.seq (.region [⟨(some 12), .mv (.t 0), none⟩,
          ⟨(some 13), .ixA 1 (.t 12) (.c (.int .i64 0)), none⟩,
          ⟨(some 14), .ld none (.t 13), none⟩,
          ⟨(some 15), .cvt .u64 (.t 14), none⟩,
          ⟨(some 2), .mv (.t 15), none⟩,
          ⟨(some 3), .mv (.c (.bool true)), none⟩] (some [2, 3]))
        .ret)
        (.seq (.region [⟨(some 17), .bin .eql (.t 7) (.c (.int .i64 2)), none⟩,
          ⟨(some 16), .mv (.t 17), none⟩] (some [0, 16]))
        (.cond (.t 16)
          (.seq (.region [⟨(some 18), .mv (.t 0), none⟩,
            ⟨(some 19), .ixA 1 (.t 18) (.c (.int .i64 1)), none⟩,
            ⟨(some 20), .ld none (.t 19), none⟩,
            ⟨(some 21), .cvt .u64 (.t 20), none⟩,
            ⟨(some 22), .bin .shl (.t 21) (.c (.int .u64 32)), none⟩,
            ⟨(some 23), .mv (.t 0), none⟩,
            ⟨(some 24), .ixA 1 (.t 23) (.c (.int .i64 0)), none⟩,
            ⟨(some 25), .ld none (.t 24), none⟩,
            ⟨(some 26), .cvt .u64 (.t 25), none⟩,
            ⟨(some 27), .bin .or (.t 22) (.t 26), none⟩,
            ⟨(some 2), .mv (.t 27), none⟩,
            ⟨(some 3), .mv (.c (.bool true)), none⟩] (some [2, 3]))
          .ret)
          .skip))))))))
  (.seq (.region [⟨(some 2), .mv (.c (.int .u64 0)), none⟩,
    ⟨(some 3), .mv (.c (.bool false)), none⟩] (some [2, 3]))
  .ret)))), [.t 2, .t 3]⟩
theorem ref01_Small_ok : cFn Tryz.prog (kps [[0], [0], [0, 7], [0, 7, 8], [2, 3], [0, 7, 10], [2, 3], [0, 16], [2, 3], [2, 3]]) [] 133 = some ref01_Small_c := by kernel_rfl

abbrev ref01_Compare : Nat := 76
def ref01_Compare_c : MFn :=
  ⟨45, (.seq (.region [⟨(some 4), .mv (.c (.int .i64 0)), none⟩] (some [0, 1]))
  (.seq (.region [⟨(some 6), .mv (.t 0), none⟩,
    ⟨(some 7), .call 115 [(.t 6)], none⟩,
    ⟨(some 8), .mv (.t 1), none⟩,
    ⟨(some 9), .call 115 [(.t 8)], none⟩,
    ⟨(some 0), .mv (.t 7), none⟩,
    ⟨(some 1), .mv (.t 9), none⟩] (some [0, 1]))
  (.seq (.seq (.region [⟨(some 10), .mv (.t 0), none⟩,
    ⟨(some 11), .lenS (.t 10), none⟩,
    ⟨(some 12), .mv (.t 1), none⟩,
    ⟨(some 13), .lenS (.t 12), none⟩,
    ⟨(some 14), .bin .neq (.t 11) (.t 13), none⟩] (some [0, 1, 14]))
  (.cond (.t 14)
    (.seq (.seq (.region [⟨(some 15), .mv (.t 0), none⟩,
      ⟨(some 16), .lenS (.t 15), none⟩,
      ⟨(some 17), .mv (.t 1), none⟩,
      ⟨(some 18), .lenS (.t 17), none⟩,
      ⟨(some 19), .bin .lss (.t 16) (.t 18), none⟩] (some [19]))
    (.cond (.t 19)
      (.seq (.region [⟨(some 4), .mv (.c (.int .i64 (-1))), none⟩] (some [4]))
      .ret)
      .skip))
    (.seq (.region [⟨(some 4), .mv (.c (.int .i64 1)), none⟩] (some [4]))
    .ret))
    .skip))
  (.seq (.seq (.region [⟨(some 20), .mv (.t 0), none⟩,
    ⟨(some 21), .lenS (.t 20), none⟩,
    ⟨(some 22), .bin .sub (.t 21) (.c (.int .i64 1)), none⟩,
    ⟨(some 5), .mv (.t 22), none⟩] (some [0, 1, 5]))
  (.block 0 (.loop (.seq (.seq (.region [⟨(some 23), .mv (.t 5), none⟩,
        ⟨(some 24), .bin .geq (.t 23) (.c (.int .i64 0)), none⟩] (some [0, 1, 5, 24]))
      (.cond (.t 24)
        .skip
        (.exit 0)))
      (.seq (.block 1 (.seq (.region [⟨(some 27), .mv (.t 0), none⟩,
          ⟨(some 28), .mv (.t 5), none⟩,
          ⟨(some 29), .ixA 1 (.t 27) (.t 28), none⟩,
          ⟨(some 30), .ld none (.t 29), none⟩,
          ⟨(some 31), .mv (.t 1), none⟩,
          ⟨(some 32), .mv (.t 5), none⟩,
          ⟨(some 33), .ixA 1 (.t 31) (.t 32), none⟩,
          ⟨(some 34), .ld none (.t 33), none⟩,
          ⟨(some 35), .bin .neq (.t 30) (.t 34), none⟩] (some [0, 1, 5, 35]))
        (.cond (.t 35)
          (.seq (.seq (.region [⟨(some 36), .mv (.t 0), none⟩,
            ⟨(some 37), .mv (.t 5), none⟩,
            ⟨(some 38), .ixA 1 (.t 36) (.t 37), none⟩,
            ⟨(some 39), .ld none (.t 38), none⟩,
            ⟨(some 40), .mv (.t 1), none⟩,
            ⟨(some 41), .mv (.t 5), none⟩,
            ⟨(some 42), .ixA 1 (.t 40) (.t 41), none⟩,
            ⟨(some 43), .ld none (.t 42), none⟩,
            ⟨(some 44), .bin .lss (.t 39) (.t 43), none⟩] (some [44]))
          (.cond (.t 44)
            (.seq (.region [⟨(some 4), .mv (.c (.int .i64 (-1))), none⟩] (some [4]))
            .ret)
            .skip))
          (.seq (.region [⟨(some 4), .mv (.c (.int .i64 1)), none⟩] (some [4]))
          .ret))
          .skip)))
      (.region [⟨(some 25), .mv (.t 5), none⟩,
        ⟨(some 26), .bin .sub (.t 25) (.c (.int .i64 1)), none⟩,
        ⟨(some 5), .mv (.t 26), none⟩] (some [0, 1, 5])))))))
  (.seq (.region [⟨(some 4), .mv (.c (.int .i64 0)), none⟩] (some [4]))
  .ret))))), [.t 4]⟩
theorem ref01_Compare_ok : cFn Tryz.prog (kps [[0, 1], [0, 1], [0, 1, 14], [19], [4], [4], [0, 1, 5], [0, 1, 5, 24], [0, 1, 5], [0, 1, 5, 35], [44], [4], [4], [4]]) [] 76 = some ref01_Compare_c := by kernel_rfl

abbrev ref01_at : Nat := 116
def ref01_at_c : MFn :=
  ⟨14, (.seq (.region [⟨(some 4), .mv (.c (.int .u64 0)), none⟩] (some [0, 1]))
  (.seq (.seq (.region [⟨(some 5), .mv (.t 1), none⟩,
    ⟨(some 6), .mv (.t 0), none⟩,
    ⟨(some 7), .lenS (.t 6), none⟩,
    ⟨(some 8), .bin .lss (.t 5) (.t 7), none⟩] (some [0, 1, 8]))
  (.cond (.t 8)
    (.seq (.region [⟨(some 9), .mv (.t 0), none⟩,
      ⟨(some 10), .mv (.t 1), none⟩,
      ⟨(some 11), .ixA 1 (.t 9) (.t 10), none⟩,
      ⟨(some 12), .ld none (.t 11), none⟩,
      ⟨(some 13), .cvt .u64 (.t 12), none⟩,
      ⟨(some 4), .mv (.t 13), none⟩] (some [4]))
    .ret)
    .skip))
  (.seq (.region [⟨(some 4), .mv (.c (.int .u64 0)), none⟩] (some [4]))
  .ret))), [.t 4]⟩
theorem ref01_at_ok : cFn Tryz.prog (kps [[0, 1], [0, 1, 8], [4], [4]]) [] 116 = some ref01_at_c := by kernel_rfl

abbrev ref01_Add : Nat := 75
def ref01_Add_c : MFn :=
  ⟨44, (.seq (.region [⟨(some 4), .mv (.c (.nils)), none⟩] (some [0, 1]))
  (.seq (.region [⟨(some 5), .mv (.c (.nils)), none⟩] (some [0, 1, 5]))
  (.seq (.region [⟨(some 6), .mv (.c (.int .u64 0)), none⟩] (some [0, 1, 5, 6]))
  (.seq (.seq (.region [⟨(some 7), .mv (.c (.int .i64 0)), none⟩] (some [0, 1, 5, 6, 7]))
  (.block 0 (.loop (.seq (.seq (.region [⟨(some 9), .mv (.t 7), none⟩,
        ⟨(some 10), .mv (.t 0), none⟩,
        ⟨(some 11), .lenS (.t 10), none⟩,
        ⟨(some 12), .bin .lss (.t 9) (.t 11), none⟩,
        ⟨(some 13), .mv (.t 12), none⟩,
        ⟨(some 14), .mv (.t 7), (some (13, false))⟩,
        ⟨(some 15), .mv (.t 1), (some (13, false))⟩,
        ⟨(some 16), .lenS (.t 15), (some (13, false))⟩,
        ⟨(some 17), .bin .lss (.t 14) (.t 16), (some (13, false))⟩,
        ⟨(some 18), .pick (.t 13) (.c (.bool true)) (.t 17), none⟩,
        ⟨(some 19), .mv (.t 18), none⟩,
        ⟨(some 20), .mv (.t 6), (some (19, false))⟩,
        ⟨(some 21), .bin .gtr (.t 20) (.c (.int .u64 0)), (some (19, false))⟩,
        ⟨(some 22), .pick (.t 19) (.c (.bool true)) (.t 21), none⟩] (some [0, 1, 5, 6, 7, 22]))
      (.cond (.t 22)
        .skip
        (.exit 0)))
      (.seq (.block 1 (.seq (.region [⟨(some 25), .mv (.t 0), none⟩,
          ⟨(some 26), .mv (.t 7), none⟩,
          ⟨(some 27), .call 116 [(.t 25), (.t 26)], none⟩,
          ⟨(some 28), .mv (.t 1), none⟩,
          ⟨(some 29), .mv (.t 7), none⟩,
          ⟨(some 30), .call 116 [(.t 28), (.t 29)], none⟩,
          ⟨(some 31), .bin .add (.t 27) (.t 30), none⟩,
          ⟨(some 32), .mv (.t 6), none⟩,
          ⟨(some 33), .bin .add (.t 31) (.t 32), none⟩,
          ⟨(some 8), .mv (.t 33), none⟩] (some [0, 1, 5, 7, 8]))
        (.seq (.region [⟨(some 34), .mv (.t 5), none⟩,
          ⟨(some 35), .mv (.t 8), none⟩,
          ⟨(some 36), .bin .rem (.t 35) (.c (.int .u64 4294967296)), none⟩,
          ⟨(some 37), .cvt .u32 (.t 36), none⟩,
          ⟨(some 38), .buildSl 1 1 [.int .u32 0] [(0, (.t 37))], none⟩,
          ⟨(some 39), .app 1 4 (.t 34) (.t 38), none⟩,
          ⟨(some 5), .mv (.t 39), none⟩] (some [0, 1, 5, 7, 8]))
        (.region [⟨(some 40), .mv (.t 8), none⟩,
          ⟨(some 41), .bin .quo (.t 40) (.c (.int .u64 4294967296)), none⟩,
          ⟨(some 6), .mv (.t 41), none⟩] (some [0, 1, 5, 6, 7])))))
      (.region [⟨(some 23), .mv (.t 7), none⟩,
        ⟨(some 24), .bin .add (.t 23) (.c (.int .i64 1)), none⟩,
        ⟨(some 7), .mv (.t 24), none⟩] (some [0, 1, 5, 6, 7])))))))
  (.seq (.region [⟨(some 42), .mv (.t 5), none⟩,
    ⟨(some 43), .call 115 [(.t 42)], none⟩,
    ⟨(some 4), .mv (.t 43), none⟩] (some [4]))
  .ret))))), [.t 4]⟩
theorem ref01_Add_ok : cFn Tryz.prog (kps [[0, 1], [0, 1, 5], [0, 1, 5, 6], [0, 1, 5, 6, 7], [0, 1, 5, 6, 7, 22], [0, 1, 5, 6, 7], [0, 1, 5, 7, 8], [0, 1, 5, 7, 8], [0, 1, 5, 6, 7], [4]]) [] 75 = some ref01_Add_c := by kernel_rfl

abbrev ref01_Sub : Nat := 77
def ref01_Sub_c : MFn :=
  ⟨44, (.seq (.region [⟨(some 4), .mv (.c (.nils)), none⟩,
    ⟨(some 5), .mv (.c (.int .i64 0)), none⟩] (some [0, 1]))
  (.seq (.seq (.region [⟨(some 10), .mv (.t 0), none⟩,
    ⟨(some 11), .mv (.t 1), none⟩,
    ⟨(some 12), .call 76 [(.t 10), (.t 11)], none⟩,
    ⟨(some 13), .bin .lss (.t 12) (.c (.int .i64 0)), none⟩] (some [0, 1, 13]))
  (.cond (.t 13)
    (.seq (.region [⟨(some 4), .mv (.c (.nils)), none⟩,
      ⟨(some 5), .mv (.c (.int .i64 1)), none⟩] (some [4, 5]))
    .ret)
    .skip))
  (.seq (.region [⟨(some 6), .mv (.c (.nils)), none⟩] (some [0, 1, 6]))
  (.seq (.region [⟨(some 7), .mv (.c (.int .u64 0)), none⟩] (some [0, 1, 6, 7]))
  (.seq (.seq (.region [⟨(some 8), .mv (.c (.int .i64 0)), none⟩] (some [0, 1, 6, 7, 8]))
  (.block 0 (.loop (.seq (.seq (.region [⟨(some 14), .mv (.t 8), none⟩,
        ⟨(some 15), .mv (.t 0), none⟩,
        ⟨(some 16), .lenS (.t 15), none⟩,
        ⟨(some 17), .bin .lss (.t 14) (.t 16), none⟩] (some [0, 1, 6, 7, 8, 17]))
      (.cond (.t 17)
        .skip
        (.exit 0)))
      (.seq (.block 1 (.seq (.region [⟨(some 20), .mv (.t 1), none⟩,
          ⟨(some 21), .mv (.t 8), none⟩,
          ⟨(some 22), .call 116 [(.t 20), (.t 21)], none⟩,
          ⟨(some 23), .mv (.t 7), none⟩,
          ⟨(some 24), .bin .add (.t 22) (.t 23), none⟩,
          ⟨(some 9), .mv (.t 24), none⟩] (some [0, 1, 6, 8, 9]))
        (.seq (.region [⟨(some 7), .mv (.c (.int .u64 0)), none⟩] (some [0, 1, 6, 7, 8, 9]))
        (.seq (.seq (.region [⟨(some 25), .mv (.t 0), none⟩,
          ⟨(some 26), .mv (.t 8), none⟩,
          ⟨(some 27), .call 116 [(.t 25), (.t 26)], none⟩,
          ⟨(some 28), .mv (.t 9), none⟩,
          ⟨(some 29), .bin .lss (.t 27) (.t 28), none⟩] (some [0, 1, 6, 7, 8, 9, 29]))
        (.cond (.t 29)
          (.region [⟨(some 7), .mv (.c (.int .u64 1)), none⟩] (some [0, 1, 6, 7, 8, 9]))
          .skip))
        (.region [⟨(some 30), .mv (.t 6), none⟩,
          ⟨(some 31), .mv (.t 0), none⟩,
          ⟨(some 32), .mv (.t 8), none⟩,
          ⟨(some 33), .call 116 [(.t 31), (.t 32)], none⟩,
          ⟨(some 34), .mv (.t 7), none⟩,
          ⟨(some 35), .bin .mul (.t 34) (.c (.int .u64 4294967296)), none⟩,
          ⟨(some 36), .bin .add (.t 33) (.t 35), none⟩,
          ⟨(some 37), .mv (.t 9), none⟩,
          ⟨(some 38), .bin .sub (.t 36) (.t 37), none⟩,
          ⟨(some 39), .cvt .u32 (.t 38), none⟩,
          ⟨(some 40), .buildSl 1 1 [.int .u32 0] [(0, (.t 39))], none⟩,
          ⟨(some 41), .app 1 4 (.t 30) (.t 40), none⟩,
          ⟨(some 6), .mv (.t 41), none⟩] (some [0, 1, 6, 7, 8]))))))
      (.region [⟨(some 18), .mv (.t 8), none⟩,
        ⟨(some 19), .bin .add (.t 18) (.c (.int .i64 1)), none⟩,
        ⟨(some 8), .mv (.t 19), none⟩] (some [0, 1, 6, 7, 8])))))))
  (.seq (.region [⟨(some 42), .mv (.t 6), none⟩,
    ⟨(some 43), .call 115 [(.t 42)], none⟩,
    ⟨(some 4), .mv (.t 43), none⟩,
    ⟨(some 5), .mv (.c (.int .i64 0)), none⟩] (some [4, 5]))
  .ret)))))), [.t 4, .t 5]⟩
theorem ref01_Sub_ok : cFn Tryz.prog (kps [[0, 1], [0, 1, 13], [4, 5], [0, 1, 6], [0, 1, 6, 7], [0, 1, 6, 7, 8], [0, 1, 6, 7, 8, 17], [0, 1, 6, 7, 8], [0, 1, 6, 8, 9], [0, 1, 6, 7, 8, 9], [0, 1, 6, 7, 8, 9, 29], [0, 1, 6, 7, 8, 9], [0, 1, 6, 7, 8], [4, 5]]) [] 77 = some ref01_Sub_c := by kernel_rfl

abbrev ref01_Mul : Nat := 74
def ref01_Mul_c : MFn :=
  ⟨73, (.seq (.region [⟨(some 4), .mv (.c (.nils)), none⟩] (some [0, 1]))
  (.seq (.region [⟨(some 10), .mv (.t 0), none⟩,
    ⟨(some 11), .call 115 [(.t 10)], none⟩,
    ⟨(some 12), .mv (.t 1), none⟩,
    ⟨(some 13), .call 115 [(.t 12)], none⟩,
    ⟨(some 0), .mv (.t 11), none⟩,
    ⟨(some 1), .mv (.t 13), none⟩] (some [0, 1]))
  (.seq (.region [⟨(some 14), .mv (.t 0), none⟩,
    ⟨(some 15), .lenS (.t 14), none⟩,
    ⟨(some 16), .mv (.t 1), none⟩,
    ⟨(some 17), .lenS (.t 16), none⟩,
    ⟨(some 18), .bin .add (.t 15) (.t 17), none⟩,
    ⟨(some 19), .mkSl 1 4 [.int .u32 0] (.t 18) (.t 18), none⟩,
    ⟨(some 5), .mv (.t 19), none⟩] (some [0, 1, 5]))
  (.seq (.seq (.region [⟨(some 6), .mv (.c (.int .i64 0)), none⟩] (some [0, 1, 5, 6]))
  (.block 0 (.loop (.seq (.seq (.region [⟨(some 20), .mv (.t 6), none⟩,
        ⟨(some 21), .mv (.t 0), none⟩,
        ⟨(some 22), .lenS (.t 21), none⟩,
        ⟨(some 23), .bin .lss (.t 20) (.t 22), none⟩] (some [0, 1, 5, 6, 23]))
      (.cond (.t 23)
        .skip
        (.exit 0)))
      (.seq (.block 1 (.seq (.region [⟨(some 7), .mv (.c (.int .u64 0)), none⟩] (some [0, 1, 5, 6, 7]))
        (.seq (.seq (.region [⟨(some 8), .mv (.c (.int .i64 0)), none⟩] (some [0, 1, 5, 6, 7, 8]))
        (.block 2 (.loop (.seq (.seq (.region [⟨(some 26), .mv (.t 8), none⟩,
              ⟨(some 27), .mv (.t 1), none⟩,
              ⟨(some 28), .lenS (.t 27), none⟩,
              ⟨(some 29), .bin .lss (.t 26) (.t 28), none⟩] (some [0, 1, 5, 6, 7, 8, 29]))
            (.cond (.t 29)
              .skip
              (.exit 2)))
            (.seq (.block 3 (.seq (.region [⟨(some 32), .mv (.t 0), none⟩,
                ⟨(some 33), .mv (.t 6), none⟩,
                ⟨(some 34), .ixA 1 (.t 32) (.t 33), none⟩,
                ⟨(some 35), .ld none (.t 34), none⟩,
                ⟨(some 36), .cvt .u64 (.t 35), none⟩,
                ⟨(some 37), .mv (.t 1), none⟩,
                ⟨(some 38), .mv (.t 8), none⟩,
                ⟨(some 39), .ixA 1 (.t 37) (.t 38), none⟩,
                ⟨(some 40), .ld none (.t 39), none⟩,
                ⟨(some 41), .cvt .u64 (.t 40), none⟩,
                ⟨(some 42), .bin .mul (.t 36) (.t 41), none⟩,
                ⟨(some 43), .mv (.t 5), none⟩,
                ⟨(some 44), .mv (.t 6), none⟩,
                ⟨(some 45), .mv (.t 8), none⟩,
                ⟨(some 46), .bin .add (.t 44) (.t 45), none⟩,
                ⟨(some 47), .ixA 1 (.t 43) (.t 46), none⟩,
                ⟨(some 48), .ld none (.t 47), none⟩,
                ⟨(some 49), .cvt .u64 (.t 48), none⟩,
                ⟨(some 50), .bin .add (.t 42) (.t 49), none⟩,
                ⟨(some 51), .mv (.t 7), none⟩,
                ⟨(some 52), .bin .add (.t 50) (.t 51), none⟩,
                ⟨(some 9), .mv (.t 52), none⟩] (some [0, 1, 5, 6, 8, 9]))
              (.seq (.region [⟨(some 53), .mv (.t 5), none⟩,
                ⟨(some 54), .mv (.t 6), none⟩,
                ⟨(some 55), .mv (.t 8), none⟩,
                ⟨(some 56), .bin .add (.t 54) (.t 55), none⟩,
                ⟨(some 57), .mv (.t 9), none⟩,
                ⟨(some 58), .bin .rem (.t 57) (.c (.int .u64 4294967296)), none⟩,
                ⟨(some 59), .cvt .u32 (.t 58), none⟩,
                ⟨(some 60), .ixA 1 (.t 53) (.t 56), none⟩,
                ⟨none, .st 1 (.t 60) (.t 59), none⟩] (some [0, 1, 5, 6, 8, 9]))
              (.region [⟨(some 61), .mv (.t 9), none⟩,
                ⟨(some 62), .bin .quo (.t 61) (.c (.int .u64 4294967296)), none⟩,
                ⟨(some 7), .mv (.t 62), none⟩] (some [0, 1, 5, 6, 7, 8])))))
            (.region [⟨(some 30), .mv (.t 8), none⟩,
              ⟨(some 31), .bin .add (.t 30) (.c (.int .i64 1)), none⟩,
              ⟨(some 8), .mv (.t 31), none⟩] (some [0, 1, 5, 6, 7, 8])))))))
        (.region [⟨(some 63), .mv (.t 5), none⟩,
          ⟨(some 64), .mv (.t 6), none⟩,
          ⟨(some 65), .mv (.t 1), none⟩,
          ⟨(some 66), .lenS (.t 65), none⟩,
          ⟨(some 67), .bin .add (.t 64) (.t 66), none⟩,
          ⟨(some 68), .mv (.t 7), none⟩,
          ⟨(some 69), .cvt .u32 (.t 68), none⟩,
          ⟨(some 70), .ixA 1 (.t 63) (.t 67), none⟩,
          ⟨none, .st 1 (.t 70) (.t 69), none⟩] (some [0, 1, 5, 6])))))
      (.region [⟨(some 24), .mv (.t 6), none⟩,
        ⟨(some 25), .bin .add (.t 24) (.c (.int .i64 1)), none⟩,
        ⟨(some 6), .mv (.t 25), none⟩] (some [0, 1, 5, 6])))))))
  (.seq (.region [⟨(some 71), .mv (.t 5), none⟩,
    ⟨(some 72), .call 115 [(.t 71)], none⟩,
    ⟨(some 4), .mv (.t 72), none⟩] (some [4]))
  .ret))))), [.t 4]⟩
theorem ref01_Mul_ok : cFn Tryz.prog (kps [[0, 1], [0, 1], [0, 1, 5], [0, 1, 5, 6], [0, 1, 5, 6, 23], [0, 1, 5, 6], [0, 1, 5, 6, 7], [0, 1, 5, 6, 7, 8], [0, 1, 5, 6, 7, 8, 29], [0, 1, 5, 6, 7, 8], [0, 1, 5, 6, 8, 9], [0, 1, 5, 6, 8, 9], [0, 1, 5, 6, 7, 8], [0, 1, 5, 6], [4]]) [] 74 = some ref01_Mul_c := by kernel_rfl

abbrev ref01_short : Nat := 137
def ref01_short_c : MFn :=
  ⟨41, (.seq (.region [⟨(some 4), .mv (.c (.nils)), none⟩,
    ⟨(some 5), .mv (.c (.int .u64 0)), none⟩] (some [0, 1]))
  (.seq (.region [⟨(some 10), .mv (.t 0), none⟩,
    ⟨(some 11), .lenS (.t 10), none⟩,
    ⟨(some 12), .mkSl 1 4 [.int .u32 0] (.t 11) (.t 11), none⟩,
    ⟨(some 6), .mv (.t 12), none⟩] (some [0, 1, 6]))
  (.seq (.region [⟨(some 7), .mv (.c (.int .u64 0)), none⟩] (some [0, 1, 6, 7]))
  (.seq (.seq (.region [⟨(some 13), .mv (.t 0), none⟩,
    ⟨(some 14), .lenS (.t 13), none⟩,
    ⟨(some 15), .bin .sub (.t 14) (.c (.int .i64 1)), none⟩,
    ⟨(some 8), .mv (.t 15), none⟩] (some [0, 1, 6, 7, 8]))
  (.block 0 (.loop (.seq (.seq (.region [⟨(some 16), .mv (.t 8), none⟩,
        ⟨(some 17), .bin .geq (.t 16) (.c (.int .i64 0)), none⟩] (some [0, 1, 6, 7, 8, 17]))
      (.cond (.t 17)
        .skip
        (.exit 0)))
      (.seq (.block 1 (.seq (.region [⟨(some 20), .mv (.t 7), none⟩,
          ⟨(some 21), .bin .mul (.t 20) (.c (.int .u64 4294967296)), none⟩,
          ⟨(some 22), .mv (.t 0), none⟩,
          ⟨(some 23), .mv (.t 8), none⟩,
          ⟨(some 24), .ixA 1 (.t 22) (.t 23), none⟩,
          ⟨(some 25), .ld none (.t 24), none⟩,
          ⟨(some 26), .cvt .u64 (.t 25), none⟩,
          ⟨(some 27), .bin .add (.t 21) (.t 26), none⟩,
          ⟨(some 9), .mv (.t 27), none⟩] (some [0, 1, 6, 8, 9]))
        (.seq (.region [⟨(some 28), .mv (.t 6), none⟩,
          ⟨(some 29), .mv (.t 8), none⟩,
          ⟨(some 30), .mv (.t 9), none⟩,
          ⟨(some 31), .mv (.t 1), none⟩,
          ⟨(some 32), .bin .quo (.t 30) (.t 31), none⟩,
          ⟨(some 33), .cvt .u32 (.t 32), none⟩,
          ⟨(some 34), .ixA 1 (.t 28) (.t 29), none⟩,
          ⟨none, .st 1 (.t 34) (.t 33), none⟩] (some [0, 1, 6, 8, 9]))
        (.region [⟨(some 35), .mv (.t 9), none⟩,
          ⟨(some 36), .mv (.t 1), none⟩,
          ⟨(some 37), .bin .rem (.t 35) (.t 36), none⟩,
          ⟨(some 7), .mv (.t 37), none⟩] (some [0, 1, 6, 7, 8])))))
      (.region [⟨(some 18), .mv (.t 8), none⟩,
        ⟨(some 19), .bin .sub (.t 18) (.c (.int .i64 1)), none⟩,
        ⟨(some 8), .mv (.t 19), none⟩] (some [0, 1, 6, 7, 8])))))))
  (.seq (.region [⟨(some 38), .mv (.t 6), none⟩,
    ⟨(some 39), .call 115 [(.t 38)], none⟩,
    ⟨(some 40), .mv (.t 7), none⟩,
    ⟨(some 4), .mv (.t 39), none⟩,
    ⟨(some 5), .mv (.t 40), none⟩] (some [4, 5]))
  .ret))))), [.t 4, .t 5]⟩
theorem ref01_short_ok : cFn Tryz.prog (kps [[0, 1], [0, 1, 6], [0, 1, 6, 7], [0, 1, 6, 7, 8], [0, 1, 6, 7, 8, 17], [0, 1, 6, 7, 8], [0, 1, 6, 8, 9], [0, 1, 6, 8, 9], [0, 1, 6, 7, 8], [4, 5]]) [] 137 = some ref01_short_c := by kernel_rfl

abbrev ref01_times : Nat := 139
def ref01_times_c : MFn :=
  ⟨42, (.seq (.region [⟨(some 6), .mv (.c (.nils)), none⟩] (some [0, 1, 2]))
  (.seq (.region [⟨(some 11), .mv (.t 2), none⟩,
    ⟨(some 12), .mkSl 1 4 [.int .u32 0] (.t 11) (.t 11), none⟩,
    ⟨(some 7), .mv (.t 12), none⟩] (some [0, 1, 7]))
  (.seq (.region [⟨(some 8), .mv (.c (.int .u64 0)), none⟩] (some [0, 1, 7, 8]))
  (.seq (.seq (.region [⟨(some 9), .mv (.c (.int .i64 0)), none⟩] (some [0, 1, 7, 8, 9]))
  (.block 0 (.loop (.seq (.seq (.region [⟨(some 13), .mv (.t 9), none⟩,
        ⟨(some 14), .mv (.t 0), none⟩,
        ⟨(some 15), .lenS (.t 14), none⟩,
        ⟨(some 16), .bin .lss (.t 13) (.t 15), none⟩] (some [0, 1, 7, 8, 9, 16]))
      (.cond (.t 16)
        .skip
        (.exit 0)))
      (.seq (.block 1 (.seq (.region [⟨(some 19), .mv (.t 0), none⟩,
          ⟨(some 20), .mv (.t 9), none⟩,
          ⟨(some 21), .ixA 1 (.t 19) (.t 20), none⟩,
          ⟨(some 22), .ld none (.t 21), none⟩,
          ⟨(some 23), .cvt .u64 (.t 22), none⟩,
          ⟨(some 24), .mv (.t 1), none⟩,
          ⟨(some 25), .bin .mul (.t 23) (.t 24), none⟩,
          ⟨(some 26), .mv (.t 8), none⟩,
          ⟨(some 27), .bin .add (.t 25) (.t 26), none⟩,
          ⟨(some 10), .mv (.t 27), none⟩] (some [0, 1, 7, 9, 10]))
        (.seq (.region [⟨(some 28), .mv (.t 7), none⟩,
          ⟨(some 29), .mv (.t 10), none⟩,
          ⟨(some 30), .bin .rem (.t 29) (.c (.int .u64 4294967296)), none⟩,
          ⟨(some 31), .cvt .u32 (.t 30), none⟩,
          ⟨(some 32), .buildSl 1 1 [.int .u32 0] [(0, (.t 31))], none⟩,
          ⟨(some 33), .app 1 4 (.t 28) (.t 32), none⟩,
          ⟨(some 7), .mv (.t 33), none⟩] (some [0, 1, 7, 9, 10]))
        (.region [⟨(some 34), .mv (.t 10), none⟩,
          ⟨(some 35), .bin .quo (.t 34) (.c (.int .u64 4294967296)), none⟩,
          ⟨(some 8), .mv (.t 35), none⟩] (some [0, 1, 7, 8, 9])))))
      (.region [⟨(some 17), .mv (.t 9), none⟩,
        ⟨(some 18), .bin .add (.t 17) (.c (.int .i64 1)), none⟩,
        ⟨(some 9), .mv (.t 18), none⟩] (some [0, 1, 7, 8, 9])))))))
  (.seq (.region [⟨(some 36), .mv (.t 7), none⟩,
    ⟨(some 37), .mv (.t 8), none⟩,
    ⟨(some 38), .cvt .u32 (.t 37), none⟩,
    ⟨(some 39), .buildSl 1 1 [.int .u32 0] [(0, (.t 38))], none⟩,
    ⟨(some 40), .app 1 4 (.t 36) (.t 39), none⟩,
    ⟨(some 41), .call 115 [(.t 40)], none⟩,
    ⟨(some 6), .mv (.t 41), none⟩] (some [6]))
  .ret))))), [.t 6]⟩
theorem ref01_times_ok : cFn Tryz.prog (kps [[0, 1, 2], [0, 1, 7], [0, 1, 7, 8], [0, 1, 7, 8, 9], [0, 1, 7, 8, 9, 16], [0, 1, 7, 8, 9], [0, 1, 7, 9, 10], [0, 1, 7, 9, 10], [0, 1, 7, 8, 9], [6]]) [] 139 = some ref01_times_c := by kernel_rfl

abbrev ref01_Div : Nat := 118
def ref01_Div_c : MFn :=
  ⟨98, (.seq (.region [⟨(some 4), .mv (.c (.nils)), none⟩,
    ⟨(some 5), .mv (.c (.nils)), none⟩,
    ⟨(some 6), .mv (.c (.int .i64 0)), none⟩] (some [0, 1]))
  (.seq (.region [⟨(some 14), .mv (.t 0), none⟩,
    ⟨(some 15), .call 115 [(.t 14)], none⟩,
    ⟨(some 16), .mv (.t 1), none⟩,
    ⟨(some 17), .call 115 [(.t 16)], none⟩,
    ⟨(some 0), .mv (.t 15), none⟩,
    ⟨(some 1), .mv (.t 17), none⟩] (some [0, 1]))
  (.seq (.seq (.region [⟨(some 18), .mv (.t 1), none⟩,
    ⟨(some 19), .lenS (.t 18), none⟩,
    ⟨(some 20), .bin .eql (.t 19) (.c (.int .i64 0)), none⟩] (some [0, 1, 20]))
  (.cond (.t 20)
    (.seq (.region [⟨(some 4), .mv (.c (.nils)), none⟩,
      ⟨(some 5), .mv (.c (.nils)), none⟩,
      ⟨(some 6), .mv (.c (.int .i64 31)), none⟩] (some [4, 5, 6]))
    .ret)
    .skip))
  (.seq (.seq (.region [⟨(some 21), .mv (.t 1), none⟩,
    ⟨(some 22), .lenS (.t 21), none⟩,
    ⟨(some 23), .bin .eql (.t 22) (.c (.int .i64 1)), none⟩] (some [0, 1, 23]))
  (.cond (.t 23)
    (.seq (.region [⟨(some 25), .mv (.t 0), none⟩,
      ⟨(some 26), .mv (.t 1), none⟩,
      ⟨(some 27), .ixA 1 (.t 26) (.c (.int .i64 0)), none⟩,
      ⟨(some 28), .ld none (.t 27), none⟩,
      ⟨(some 29), .cvt .u64 (.t 28), none⟩,
      ⟨(some 30), .call 137 [(.t 25), (.t 29)], none⟩,
      ⟨(some 24), .mv (.t 30), none⟩,
      ⟨(some 31), .ext (.t 24) 0, none⟩,
      ⟨(some 32), .ext (.t 24) 1, none⟩,
      ⟨(some 7), .mv (.t 31), none⟩,
      ⟨(some 8), .mv (.t 32), none⟩] (some [7, 8]))
    (.seq (.region [⟨(some 33), .mv (.t 7), none⟩,
      ⟨(some 34), .mv (.t 8), none⟩,
      ⟨(some 35), .call 72 [(.t 34)], none⟩,
      ⟨(some 4), .mv (.t 33), none⟩,
      ⟨(some 5), .mv (.t 35), none⟩,
      ⟨(some 6), .mv (.c (.int .i64 0)), none⟩] (some [4, 5, 6]))
    .ret))
    .skip))
  (.seq (.seq (.region [⟨(some 36), .mv (.t 0), none⟩,
    ⟨(some 37), .lenS (.t 36), none⟩,
    ⟨(some 38), .mv (.t 1), none⟩,
    ⟨(some 39), .lenS (.t 38), none⟩,
    ⟨(some 40), .bin .lss (.t 37) (.t 39), none⟩] (some [0, 1, 40]))
  (.cond (.t 40)
    (.seq (.region [⟨(some 41), .mv (.t 0), none⟩,
      ⟨(some 4), .mv (.c (.nils)), none⟩,
      ⟨(some 5), .mv (.t 41), none⟩,
      ⟨(some 6), .mv (.c (.int .i64 0)), none⟩] (some [4, 5, 6]))
    .ret)
    .skip))
  (.seq (.region [⟨(some 42), .mv (.t 0), none⟩,
    ⟨(some 43), .lenS (.t 42), none⟩,
    ⟨(some 44), .mkSl 1 4 [.int .u32 0] (.t 43) (.t 43), none⟩,
    ⟨(some 9), .mv (.t 44), none⟩] (some [0, 1, 9]))
  (.seq (.seq (.region [⟨(some 45), .mv (.t 0), none⟩,
    ⟨(some 46), .lenS (.t 45), none⟩,
    ⟨(some 47), .mv (.t 1), none⟩,
    ⟨(some 48), .lenS (.t 47), none⟩,
    ⟨(some 49), .bin .sub (.t 46) (.t 48), none⟩,
    ⟨(some 10), .mv (.t 49), none⟩] (some [0, 1, 9, 10]))
  (.block 0 (.loop (.seq (.seq (.region [⟨(some 50), .mv (.t 10), none⟩,
        ⟨(some 51), .bin .geq (.t 50) (.c (.int .i64 0)), none⟩] (some [0, 1, 9, 10, 51]))
      (.cond (.t 51)
        .skip
        (.exit 0)))
      (.seq (.block 1 (.seq (.region [⟨(some 55), .mv (.t 0), none⟩,
          ⟨(some 56), .mv (.t 1), none⟩,
          ⟨(some 57), .mv (.t 10), none⟩,
          ⟨(some 58), .call 138 [(.t 55), (.t 56), (.t 57)], none⟩,
          ⟨(some 54), .mv (.t 58), none⟩,
          ⟨(some 59), .ext (.t 54) 0, none⟩,
          ⟨(some 60), .ext (.t 54) 1, none⟩,
          ⟨(some 11), .mv (.t 59), none⟩,
          ⟨(some 12), .mv (.t 60), none⟩] (some [0, 1, 9, 10, 11, 12]))
        (.seq (.block 2 (.loop (.seq (.seq (.region [⟨(some 61), .mv (.t 11), none⟩,
              ⟨(some 62), .mv (.t 12), none⟩,
              ⟨(some 63), .bin .lss (.t 61) (.t 62), none⟩] (some [0, 1, 9, 10, 11, 12, 63]))
            (.cond (.t 63)
              .skip
              (.exit 2)))
            (.block 3 (.seq (.region [⟨(some 64), .mv (.t 11), none⟩,
                ⟨(some 65), .mv (.t 12), none⟩,
                ⟨(some 66), .mv (.t 11), none⟩,
                ⟨(some 67), .bin .sub (.t 65) (.t 66), none⟩,
                ⟨(some 68), .bin .add (.t 67) (.c (.int .u64 1)), none⟩,
                ⟨(some 69), .bin .quo (.t 68) (.c (.int .u64 2)), none⟩,
                ⟨(some 70), .bin .add (.t 64) (.t 69), none⟩,
                ⟨(some 13), .mv (.t 70), none⟩] (some [0, 1, 9, 10, 11, 12, 13]))
              (.seq (.region [⟨(some 71), .mv (.t 1), none⟩,
                ⟨(some 72), .mv (.t 13), none⟩,
                ⟨(some 73), .mv (.t 10), none⟩,
                ⟨(some 74), .call 139 [(.t 71), (.t 72), (.t 73)], none⟩,
                ⟨(some 75), .mv (.t 0), none⟩,
                ⟨(some 76), .call 76 [(.t 74), (.t 75)], none⟩,
                ⟨(some 77), .bin .leq (.t 76) (.c (.int .i64 0)), none⟩] (some [0, 1, 9, 10, 11, 12, 13, 77]))
              (.cond (.t 77)
                (.region [⟨(some 78), .mv (.t 13), none⟩,
                  ⟨(some 11), .mv (.t 78), none⟩] (some [0, 1, 9, 10, 11, 12]))
                (.region [⟨(some 79), .mv (.t 13), none⟩,
                  ⟨(some 80), .bin .sub (.t 79) (.c (.int .u64 1)), none⟩,
                  ⟨(some 12), .mv (.t 80), none⟩] (some [0, 1, 9, 10, 11, 12])))))))))
        (.seq (.region [⟨(some 81), .mv (.t 9), none⟩,
          ⟨(some 82), .mv (.t 10), none⟩,
          ⟨(some 83), .mv (.t 11), none⟩,
          ⟨(some 84), .cvt .u32 (.t 83), none⟩,
          ⟨(some 85), .ixA 1 (.t 81) (.t 82), none⟩,
          ⟨none, .st 1 (.t 85) (.t 84), none⟩] (some [0, 1, 9, 10, 11]))
        (.region [⟨(some 87), .mv (.t 0), none⟩,
          ⟨(some 88), .mv (.t 1), none⟩,
          ⟨(some 89), .mv (.t 11), none⟩,
          ⟨(some 90), .mv (.t 10), none⟩,
          ⟨(some 91), .call 139 [(.t 88), (.t 89), (.t 90)], none⟩,
          ⟨(some 92), .call 77 [(.t 87), (.t 91)], none⟩,
          ⟨(some 86), .mv (.t 92), none⟩,
          ⟨(some 93), .ext (.t 86) 0, none⟩,
          ⟨(some 94), .ext (.t 86) 1, none⟩,
          ⟨(some 0), .mv (.t 93), none⟩] (some [0, 1, 9, 10]))))))
      (.region [⟨(some 52), .mv (.t 10), none⟩,
        ⟨(some 53), .bin .sub (.t 52) (.c (.int .i64 1)), none⟩,
        ⟨(some 10), .mv (.t 53), none⟩] (some [0, 1, 9, 10])))))))
  (.seq (.region [⟨(some 95), .mv (.t 9), none⟩,
    ⟨(some 96), .call 115 [(.t 95)], none⟩,
    ⟨(some 97), .mv (.t 0), none⟩,
    ⟨(some 4), .mv (.t 96), none⟩,
    ⟨(some 5), .mv (.t 97), none⟩,
    ⟨(some 6), .mv (.c (.int .i64 0)), none⟩] (some [4, 5, 6]))
  .ret)))))))), [.t 4, .t 5, .t 6]⟩
theorem ref01_Div_ok : cFn Tryz.prog (kps [[0, 1], [0, 1], [0, 1, 20], [4, 5, 6], [0, 1, 23], [7, 8], [4, 5, 6], [0, 1, 40], [4, 5, 6], [0, 1, 9], [0, 1, 9, 10], [0, 1, 9, 10, 51], [0, 1, 9, 10], [0, 1, 9, 10, 11, 12], [0, 1, 9, 10, 11, 12, 63], [0, 1, 9, 10, 11, 12, 13], [0, 1, 9, 10, 11, 12, 13, 77], [0, 1, 9, 10, 11, 12], [0, 1, 9, 10, 11, 12], [0, 1, 9, 10, 11], [0, 1, 9, 10], [4, 5, 6]]) [] 118 = some ref01_Div_c := by kernel_rfl

abbrev ref01_guess : Nat := 138
def ref01_guess_c : MFn :=
  ⟨62, (.seq (.region [⟨(some 6), .mv (.c (.int .u64 0)), none⟩,
    ⟨(some 7), .mv (.c (.int .u64 0)), none⟩] (some [0, 1, 2]))
  (.seq (.region [⟨(some 13), .mv (.t 1), none⟩,
    ⟨(some 14), .lenS (.t 13), none⟩,
    ⟨(some 8), .mv (.t 14), none⟩] (some [0, 1, 2, 8]))
  (.seq (.region [⟨(some 15), .mv (.t 0), none⟩,
    ⟨(some 16), .mv (.t 2), none⟩,
    ⟨(some 17), .mv (.t 8), none⟩,
    ⟨(some 18), .bin .add (.t 16) (.t 17), none⟩,
    ⟨(some 19), .callF 116 [(.t 15), (.t 18)], none⟩,
    ⟨(some 20), .bin .shl (.t 19) (.c (.int .u64 32)), none⟩,
    ⟨(some 21), .mv (.t 0), none⟩,
    ⟨(some 22), .mv (.t 2), none⟩,
    ⟨(some 23), .mv (.t 8), none⟩,
    ⟨(some 24), .bin .add (.t 22) (.t 23), none⟩,
    ⟨(some 25), .bin .sub (.t 24) (.c (.int .i64 1)), none⟩,
    ⟨(some 26), .callF 116 [(.t 21), (.t 25)], none⟩,
    ⟨(some 27), .bin .or (.t 20) (.t 26), none⟩,
    ⟨(some 28), .mv (.t 1), none⟩,
    ⟨(some 29), .mv (.t 8), none⟩,
    ⟨(some 30), .bin .sub (.t 29) (.c (.int .i64 1)), none⟩,
    ⟨(some 31), .ixA 1 (.t 28) (.t 30), none⟩,
    ⟨(some 32), .ld none (.t 31), none⟩,
    ⟨(some 33), .cvt .u64 (.t 32), none⟩,
    ⟨(some 9), .mv (.t 27), none⟩,
    ⟨(some 10), .mv (.t 33), none⟩] (some [9, 10]))
  (.seq (.region [⟨(some 11), .mv (.c (.int .u64 0)), none⟩,
    ⟨(some 12), .mv (.c (.int .u64 4294967295)), none⟩] (some [9, 10, 11, 12]))
  (.seq (.seq (.region [⟨(some 34), .mv (.t 9), none⟩,
    ⟨(some 35), .mv (.t 10), none⟩,
    ⟨(some 36), .bin .quo (.t 34) (.t 35), none⟩,
    ⟨(some 37), .mv (.t 12), none⟩,
    ⟨(some 38), .bin .lss (.t 36) (.t 37), none⟩] (some [9, 10, 11, 12, 38]))
  (.cond (.t 38)
    (.region [⟨(some 39), .mv (.t 9), none⟩,
      ⟨(some 40), .mv (.t 10), none⟩,
      ⟨(some 41), .bin .quo (.t 39) (.t 40), none⟩,
      ⟨(some 12), .mv (.t 41), none⟩] (some [9, 10, 11, 12]))
    .skip))
  (.seq (.seq (.region [⟨(some 42), .mv (.t 10), none⟩,
    ⟨(some 43), .bin .add (.t 42) (.c (.int .u64 1)), none⟩,
    ⟨(some 44), .bin .lss (.t 43) (.c (.int .u64 4294967296)), none⟩,
    ⟨(some 45), .mv (.t 44), none⟩,
    ⟨(some 46), .mv (.t 9), (some (45, true))⟩,
    ⟨(some 47), .mv (.t 10), (some (45, true))⟩,
    ⟨(some 48), .bin .add (.t 47) (.c (.int .u64 1)), (some (45, true))⟩,
    ⟨(some 49), .bin .quo (.t 46) (.t 48), (some (45, true))⟩,
    ⟨(some 50), .bin .lss (.t 49) (.c (.int .u64 4294967296)), (some (45, true))⟩,
    ⟨(some 51), .pick (.t 45) (.t 50) (.c (.bool false)), none⟩] (some [9, 10, 11, 12, 51]))
  (.cond (.t 51)
    (.region [⟨(some 52), .mv (.t 9), none⟩,
      ⟨(some 53), .mv (.t 10), none⟩,
      ⟨(some 54), .bin .add (.t 53) (.c (.int .u64 1)), none⟩,
      ⟨(some 55), .bin .quo (.t 52) (.t 54), none⟩,
      ⟨(some 11), .mv (.t 55), none⟩] (some [11, 12]))
    .skip))
  (.seq (.seq (.region [⟨(some 56), .mv (.t 11), none⟩,
    ⟨(some 57), .mv (.t 12), none⟩,
    ⟨(some 58), .bin .gtr (.t 56) (.t 57), none⟩] (some [11, 12, 58]))
  (.cond (.t 58)
    (.region [⟨(some 59), .mv (.t 12), none⟩,
      ⟨(some 11), .mv (.t 59), none⟩] (some [11, 12]))
    .skip))
  (.seq (.region [⟨(some 60), .mv (.t 11), none⟩,
    ⟨(some 61), .mv (.t 12), none⟩,
    ⟨(some 6), .mv (.t 60), none⟩,
    ⟨(some 7), .mv (.t 61), none⟩] (some [6, 7]))
  .ret)))))))), [.t 6, .t 7]⟩
theorem ref01_guess_ok : cFn Tryz.prog (kps [[0, 1, 2], [0, 1, 2, 8], [9, 10], [9, 10, 11, 12], [9, 10, 11, 12, 38], [9, 10, 11, 12], [9, 10, 11, 12, 51], [11, 12], [11, 12, 58], [11, 12], [6, 7]]) [] 138 = some ref01_guess_c := by kernel_rfl

abbrev ref01_half : Nat := 135
def ref01_half_c : MFn :=
  ⟨12, (.seq (.region [⟨(some 2), .mv (.c (.nils)), none⟩] (some [0]))
  (.seq (.region [⟨(some 6), .mv (.t 0), none⟩,
    ⟨(some 7), .call 115 [(.t 6)], none⟩,
    ⟨(some 8), .call 137 [(.t 7), (.c (.int .u64 2))], none⟩,
    ⟨(some 5), .mv (.t 8), none⟩,
    ⟨(some 9), .ext (.t 5) 0, none⟩,
    ⟨(some 10), .ext (.t 5) 1, none⟩,
    ⟨(some 3), .mv (.t 9), none⟩,
    ⟨(some 4), .mv (.t 10), none⟩] (some [3]))
  (.seq (.region [⟨(some 11), .mv (.t 3), none⟩,
    ⟨(some 2), .mv (.t 11), none⟩] (some [2]))
  .ret))), [.t 2]⟩
theorem ref01_half_ok : cFn Tryz.prog (kps [[0], [3], [2]]) [] 135 = some ref01_half_c := by kernel_rfl

abbrev ref01_even : Nat := 134
def ref01_even_c : MFn :=
  ⟨7, (.seq (.region [⟨(some 2), .mv (.c (.bool false)), none⟩] (some [0]))
  (.seq (.region [⟨(some 3), .mv (.t 0), none⟩,
    ⟨(some 4), .call 116 [(.t 3), (.c (.int .i64 0))], none⟩,
    ⟨(some 5), .bin .rem (.t 4) (.c (.int .u64 2)), none⟩,
    ⟨(some 6), .bin .eql (.t 5) (.c (.int .u64 0)), none⟩,
    ⟨(some 2), .mv (.t 6), none⟩] (some [2]))
  .ret)), [.t 2]⟩
theorem ref01_even_ok : cFn Tryz.prog (kps [[0], [2]]) [] 134 = some ref01_even_c := by kernel_rfl

abbrev ref01_Gcd : Nat := 106
def ref01_Gcd_c : MFn :=
  ⟨84, (.seq (.region [⟨(some 4), .mv (.c (.nils)), none⟩] (some [0, 1]))
  (.seq (.region [⟨(some 10), .mv (.t 0), none⟩,
    ⟨(some 11), .call 115 [(.t 10)], none⟩,
    ⟨(some 12), .mv (.t 1), none⟩,
    ⟨(some 13), .call 115 [(.t 12)], none⟩,
    ⟨(some 0), .mv (.t 11), none⟩,
    ⟨(some 1), .mv (.t 13), none⟩] (some [0, 1]))
  (.seq (.region [⟨(some 15), .mv (.t 0), none⟩,
    ⟨(some 16), .call 133 [(.t 15)], none⟩,
    ⟨(some 14), .mv (.t 16), none⟩,
    ⟨(some 17), .ext (.t 14) 0, none⟩,
    ⟨(some 18), .ext (.t 14) 1, none⟩,
    ⟨(some 5), .mv (.t 17), none⟩,
    ⟨(some 6), .mv (.t 18), none⟩] (some [0, 1, 5, 6]))
  (.seq (.region [⟨(some 20), .mv (.t 1), none⟩,
    ⟨(some 21), .call 133 [(.t 20)], none⟩,
    ⟨(some 19), .mv (.t 21), none⟩,
    ⟨(some 22), .ext (.t 19) 0, none⟩,
    ⟨(some 23), .ext (.t 19) 1, none⟩,
    ⟨(some 7), .mv (.t 22), none⟩,
    ⟨(some 8), .mv (.t 23), none⟩] (some [0, 1, 5, 6, 7, 8]))
  (.seq (.seq (.region [⟨(some 24), .mv (.t 6), none⟩,
    ⟨(some 25), .mv (.t 24), none⟩,
    ⟨(some 26), .mv (.t 8), (some (25, true))⟩,
    ⟨(some 27), .pick (.t 25) (.t 26) (.c (.bool false)), none⟩] (some [0, 1, 5, 7, 27]))
  (.cond (.t 27)
    (.seq (.block 0 (.loop (.seq (.seq (.region [⟨(some 28), .mv (.t 7), none⟩,
          ⟨(some 29), .bin .neq (.t 28) (.c (.int .u64 0)), none⟩] (some [5, 7, 29]))
        (.cond (.t 29)
          .skip
          (.exit 0)))
        (.block 1 (.region [⟨(some 30), .mv (.t 7), none⟩,
            ⟨(some 31), .mv (.t 5), none⟩,
            ⟨(some 32), .mv (.t 7), none⟩,
            ⟨(some 33), .bin .rem (.t 31) (.t 32), none⟩,
            ⟨(some 5), .mv (.t 30), none⟩,
            ⟨(some 7), .mv (.t 33), none⟩] (some [5, 7]))))))
    (.seq (.region [⟨(some 34), .mv (.t 5), none⟩,
      ⟨(some 35), .call 72 [(.t 34)], none⟩,
      ⟨(some 4), .mv (.t 35), none⟩] (some [4]))
    .ret))
    .skip))
  (.seq (.seq (.region [⟨(some 36), .mv (.t 0), none⟩,
    ⟨(some 37), .lenS (.t 36), none⟩,
    ⟨(some 38), .bin .eql (.t 37) (.c (.int .i64 0)), none⟩] (some [0, 1, 38]))
  (.cond (.t 38)
    (.seq (.region [⟨(some 39), .mv (.t 1), none⟩,
      ⟨(some 4), .mv (.t 39), none⟩] (some [4]))
    .ret)
    .skip))
  (.seq (.seq (.region [⟨(some 40), .mv (.t 1), none⟩,
    ⟨(some 41), .lenS (.t 40), none⟩,
    ⟨(some 42), .bin .eql (.t 41) (.c (.int .i64 0)), none⟩] (some [0, 1, 42]))
  (.cond (.t 42)
    (.seq (.region [⟨(some 43), .mv (.t 0), none⟩,
      ⟨(some 4), .mv (.t 43), none⟩] (some [4]))
    .ret)
    .skip))
  (.seq (.region [⟨(some 44), .call 72 [(.c (.int .u64 1))], none⟩,
    ⟨(some 9), .mv (.t 44), none⟩] (some [0, 1, 9]))
  (.seq (.block 2 (.loop (.seq (.seq (.region [⟨(some 45), .mv (.t 0), none⟩,
        ⟨(some 46), .call 134 [(.t 45)], none⟩,
        ⟨(some 47), .mv (.t 46), none⟩,
        ⟨(some 48), .mv (.t 1), (some (47, true))⟩,
        ⟨(some 49), .call 134 [(.t 48)], (some (47, true))⟩,
        ⟨(some 50), .pick (.t 47) (.t 49) (.c (.bool false)), none⟩] (some [0, 1, 9, 50]))
      (.cond (.t 50)
        .skip
        (.exit 2)))
      (.block 3 (.region [⟨(some 51), .mv (.t 0), none⟩,
          ⟨(some 52), .call 135 [(.t 51)], none⟩,
          ⟨(some 53), .mv (.t 1), none⟩,
          ⟨(some 54), .call 135 [(.t 53)], none⟩,
          ⟨(some 55), .mv (.t 9), none⟩,
          ⟨(some 56), .mv (.t 9), none⟩,
          ⟨(some 57), .call 75 [(.t 55), (.t 56)], none⟩,
          ⟨(some 0), .mv (.t 52), none⟩,
          ⟨(some 1), .mv (.t 54), none⟩,
          ⟨(some 9), .mv (.t 57), none⟩] (some [0, 1, 9]))))))
  (.seq (.block 4 (.loop (.seq (.seq (.region [⟨(some 58), .mv (.t 1), none⟩,
        ⟨(some 59), .lenS (.t 58), none⟩,
        ⟨(some 60), .bin .gtr (.t 59) (.c (.int .i64 0)), none⟩] (some [0, 1, 9, 60]))
      (.cond (.t 60)
        .skip
        (.exit 4)))
      (.block 5 (.seq (.block 6 (.loop (.seq (.seq (.region [⟨(some 61), .mv (.t 0), none⟩,
              ⟨(some 62), .call 134 [(.t 61)], none⟩] (some [0, 1, 9, 62]))
            (.cond (.t 62)
              .skip
              (.exit 6)))
            (.block 7 (.region [⟨(some 63), .mv (.t 0), none⟩,
                ⟨(some 64), .call 135 [(.t 63)], none⟩,
                ⟨(some 0), .mv (.t 64), none⟩] (some [0, 1, 9]))))))
        (.seq (.block 8 (.loop (.seq (.seq (.region [⟨(some 65), .mv (.t 1), none⟩,
              ⟨(some 66), .call 134 [(.t 65)], none⟩] (some [0, 1, 9, 66]))
            (.cond (.t 66)
              .skip
              (.exit 8)))
            (.block 9 (.region [⟨(some 67), .mv (.t 1), none⟩,
                ⟨(some 68), .call 135 [(.t 67)], none⟩,
                ⟨(some 1), .mv (.t 68), none⟩] (some [0, 1, 9]))))))
        (.seq (.seq (.region [⟨(some 69), .mv (.t 0), none⟩,
          ⟨(some 70), .mv (.t 1), none⟩,
          ⟨(some 71), .call 76 [(.t 69), (.t 70)], none⟩,
          ⟨(some 72), .bin .gtr (.t 71) (.c (.int .i64 0)), none⟩] (some [0, 1, 9, 72]))
        (.cond (.t 72)
          (.region [⟨(some 73), .mv (.t 1), none⟩,
            ⟨(some 74), .mv (.t 0), none⟩,
            ⟨(some 0), .mv (.t 73), none⟩,
            ⟨(some 1), .mv (.t 74), none⟩] (some [0, 1, 9]))
          .skip))
        (.region [⟨(some 76), .mv (.t 1), none⟩,
          ⟨(some 77), .mv (.t 0), none⟩,
          ⟨(some 78), .call 77 [(.t 76), (.t 77)], none⟩,
          ⟨(some 75), .mv (.t 78), none⟩,
          ⟨(some 79), .ext (.t 75) 0, none⟩,
          ⟨(some 80), .ext (.t 75) 1, none⟩,
          ⟨(some 1), .mv (.t 79), none⟩] (some [0, 1, 9])))))))))
  (.seq (.region [⟨(some 81), .mv (.t 0), none⟩,
    ⟨(some 82), .mv (.t 9), none⟩,
    ⟨(some 83), .call 74 [(.t 81), (.t 82)], none⟩,
    ⟨(some 4), .mv (.t 83), none⟩] (some [4]))
  .ret))))))))))), [.t 4]⟩
theorem ref01_Gcd_ok : cFn Tryz.prog (kps [[0, 1], [0, 1], [0, 1, 5, 6], [0, 1, 5, 6, 7, 8], [0, 1, 5, 7, 27], [5, 7, 29], [5, 7], [4], [0, 1, 38], [4], [0, 1, 42], [4], [0, 1, 9], [0, 1, 9, 50], [0, 1, 9], [0, 1, 9, 60], [0, 1, 9, 62], [0, 1, 9], [0, 1, 9, 66], [0, 1, 9], [0, 1, 9, 72], [0, 1, 9], [0, 1, 9], [4]]) [] 106 = some ref01_Gcd_c := by kernel_rfl

abbrev ref01_Bits : Nat := 117
def ref01_Bits_c : MFn :=
  ⟨27, (.seq (.region [⟨(some 2), .mv (.c (.int .i64 0)), none⟩] (some [0]))
  (.seq (.region [⟨(some 5), .mv (.t 0), none⟩,
    ⟨(some 6), .call 115 [(.t 5)], none⟩,
    ⟨(some 0), .mv (.t 6), none⟩] (some [0]))
  (.seq (.seq (.region [⟨(some 7), .mv (.t 0), none⟩,
    ⟨(some 8), .lenS (.t 7), none⟩,
    ⟨(some 9), .bin .eql (.t 8) (.c (.int .i64 0)), none⟩] (some [0, 9]))
  (.cond (.t 9)
    (.seq (.region [⟨(some 2), .mv (.c (.int .i64 0)), none⟩] (some [2]))
    .ret)
    .skip))
  (.seq (.region [⟨(some 10), .mv (.t 0), none⟩,
    ⟨(some 11), .lenS (.t 10), none⟩,
    ⟨(some 12), .bin .sub (.t 11) (.c (.int .i64 1)), none⟩,
    ⟨(some 13), .bin .mul (.c (.int .i64 32)) (.t 12), none⟩,
    ⟨(some 3), .mv (.t 13), none⟩] (some [0, 3]))
  (.seq (.seq (.region [⟨(some 14), .mv (.t 0), none⟩,
    ⟨(some 15), .mv (.t 0), none⟩,
    ⟨(some 16), .lenS (.t 15), none⟩,
    ⟨(some 17), .bin .sub (.t 16) (.c (.int .i64 1)), none⟩,
    ⟨(some 18), .ixA 1 (.t 14) (.t 17), none⟩,
    ⟨(some 19), .ld none (.t 18), none⟩,
    ⟨(some 4), .mv (.t 19), none⟩] (some [3, 4]))
  (.block 0 (.loop (.seq (.seq (.region [⟨(some 20), .mv (.t 4), none⟩,
        ⟨(some 21), .bin .gtr (.t 20) (.c (.int .u32 0)), none⟩] (some [3, 4, 21]))
      (.cond (.t 21)
        .skip
        (.exit 0)))
      (.seq (.block 1 (.region [⟨(some 24), .mv (.t 3), none⟩,
          ⟨(some 25), .bin .add (.t 24) (.c (.int .i64 1)), none⟩,
          ⟨(some 3), .mv (.t 25), none⟩] (some [3, 4])))
      (.region [⟨(some 22), .mv (.t 4), none⟩,
        ⟨(some 23), .bin .quo (.t 22) (.c (.int .u32 2)), none⟩,
        ⟨(some 4), .mv (.t 23), none⟩] (some [3, 4])))))))
  (.seq (.region [⟨(some 26), .mv (.t 3), none⟩,
    ⟨(some 2), .mv (.t 26), none⟩] (some [2]))
  .ret)))))), [.t 2]⟩
theorem ref01_Bits_ok : cFn Tryz.prog (kps [[0], [0], [0, 9], [2], [0, 3], [3, 4], [3, 4, 21], [3, 4], [3, 4], [2]]) [] 117 = some ref01_Bits_c := by kernel_rfl

end Go.Proofs.YtnneehniendnfaaGreat.F
