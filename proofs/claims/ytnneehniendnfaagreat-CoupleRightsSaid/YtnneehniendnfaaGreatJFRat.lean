import Derived.Test.YtnneehniendnfaaGreatGC
import Derived.Test.YtnneehniendnfaaGreatProg
import Derived.KernelRfl
/-! Functions of the program, as the engine reads them: written by gen.py out of the engine's own print; each is held against the translation by the kernel. -/
namespace Go.Proofs.YtnneehniendnfaaGreat.F
open Go Go.Proofs Go.Proofs.YtnneehniendnfaaGreat.E
abbrev ref02_Same : Nat := 24
def ref02_Same_c : MFn :=
  ⟨9, (.seq (.region [⟨(some 2), .box (.t 0), none⟩,
    ⟨(some 3), .box (.t 1), none⟩,
    ⟨(some 4), .mv (.c (.bool false)), none⟩] (some [2, 3]))
  (.seq (.region [⟨(some 5), .ld (some 3) (.t 2), none⟩,
    ⟨(some 6), .ld (some 3) (.t 3), none⟩,
    ⟨(some 7), .call 27 [(.t 5), (.t 6)], none⟩,
    ⟨(some 8), .bin .eql (.t 7) (.c (.int .i64 0)), none⟩,
    ⟨(some 4), .mv (.t 8), none⟩] (some [4]))
  .ret)), [.t 4]⟩
theorem ref02_Same_ok : cFn Tryz.prog (kps [[2, 3], [4]]) [] 24 = some ref02_Same_c := by kernel_rfl

abbrev ref02_Compare : Nat := 27
def ref02_Compare_c : MFn :=
  ⟨9, (.seq (.region [⟨(some 2), .box (.t 0), none⟩,
    ⟨(some 3), .box (.t 1), none⟩,
    ⟨(some 4), .mv (.c (.int .i64 0)), none⟩] (some [2, 3]))
  (.seq (.region [⟨(some 5), .ld (some 3) (.t 2), none⟩,
    ⟨(some 6), .ld (some 3) (.t 3), none⟩,
    ⟨(some 7), .call 31 [(.t 5), (.t 6)], none⟩,
    ⟨(some 8), .call 51 [(.t 7)], none⟩,
    ⟨(some 4), .mv (.t 8), none⟩] (some [4]))
  .ret)), [.t 4]⟩
theorem ref02_Compare_ok : cFn Tryz.prog (kps [[2, 3], [4]]) [] 27 = some ref02_Compare_c := by kernel_rfl

abbrev ref02_Zero : Nat := 29
def ref02_Zero_c : MFn :=
  ⟨3, (.seq (.region [⟨(some 0), .alloc [.bool false, .nils, .nils], none⟩] (some [0]))
  (.seq (.region [⟨(some 1), .call 72 [(.c (.int .u64 1))], none⟩,
    ⟨(some 2), .build [.bool false, .nils, .nils] [(2, 1, (.t 1))], none⟩,
    ⟨none, .st 3 (.t 0) (.t 2), none⟩] (some [0]))
  .ret)), [.cell 0 (some 3)]⟩
theorem ref02_Zero_ok : cFn Tryz.prog (kps [[0], [0]]) [] 29 = some ref02_Zero_c := by kernel_rfl

abbrev ref02_Add : Nat := 30
def ref02_Add_c : MFn :=
  ⟨67, (.seq (.region [⟨(some 2), .box (.t 0), none⟩,
    ⟨(some 3), .box (.t 1), none⟩,
    ⟨(some 4), .alloc [.bool false, .nils, .nils], none⟩] (some [2, 3, 4]))
  (.seq (.region [⟨(some 12), .ld (some 3) (.t 2), none⟩,
    ⟨(some 13), .callF 73 [(.t 12)], none⟩,
    ⟨(some 14), .ld (some 3) (.t 3), none⟩,
    ⟨(some 15), .callF 73 [(.t 14)], none⟩,
    ⟨none, .st 3 (.t 2) (.t 13), none⟩,
    ⟨none, .st 3 (.t 3) (.t 15), none⟩] (some [2, 3, 4]))
  (.seq (.region [⟨(some 16), .fA 1 (.t 2), none⟩,
    ⟨(some 17), .ld none (.t 16), none⟩,
    ⟨(some 18), .fA 2 (.t 3), none⟩,
    ⟨(some 19), .ld none (.t 18), none⟩,
    ⟨(some 20), .callF 74 [(.t 17), (.t 19)], none⟩,
    ⟨(some 21), .fA 1 (.t 3), none⟩,
    ⟨(some 22), .ld none (.t 21), none⟩,
    ⟨(some 23), .fA 2 (.t 2), none⟩,
    ⟨(some 24), .ld none (.t 23), none⟩,
    ⟨(some 25), .callF 74 [(.t 22), (.t 24)], none⟩,
    ⟨(some 26), .fA 2 (.t 2), none⟩,
    ⟨(some 27), .ld none (.t 26), none⟩,
    ⟨(some 28), .fA 2 (.t 3), none⟩,
    ⟨(some 29), .ld none (.t 28), none⟩,
    ⟨(some 30), .callF 74 [(.t 27), (.t 29)], none⟩,
    ⟨(some 5), .mv (.t 20), none⟩,
    ⟨(some 6), .mv (.t 25), none⟩,
    ⟨(some 7), .mv (.t 30), none⟩] (some [2, 3, 4, 5, 6, 7]))
  (.seq (.region [⟨(some 31), .fA 0 (.t 2), none⟩,
    ⟨(some 32), .ld none (.t 31), none⟩,
    ⟨(some 33), .mv (.t 5), none⟩,
    ⟨(some 34), .mv (.t 6), none⟩,
    ⟨(some 35), .callF 75 [(.t 33), (.t 34)], none⟩,
    ⟨(some 8), .mv (.t 32), none⟩,
    ⟨(some 9), .mv (.t 35), none⟩] (some [2, 3, 4, 5, 6, 7, 8, 9]))
  (.seq (.seq (.region [⟨(some 36), .fA 0 (.t 2), none⟩,
    ⟨(some 37), .ld none (.t 36), none⟩,
    ⟨(some 38), .fA 0 (.t 3), none⟩,
    ⟨(some 39), .ld none (.t 38), none⟩,
    ⟨(some 40), .binB .neq (.t 37) (.t 39), none⟩] (some [3, 4, 5, 6, 7, 8, 9, 40]))
  (.cond (.t 40)
    (.seq (.region [⟨(some 41), .mv (.t 5), none⟩,
      ⟨(some 42), .mv (.t 6), none⟩,
      ⟨(some 43), .call 76 [(.t 41), (.t 42)], none⟩,
      ⟨(some 44), .bin .geq (.t 43) (.c (.int .i64 0)), none⟩] (some [3, 4, 5, 6, 7, 8, 44]))
    (.cond (.t 44)
      (.region [⟨(some 46), .mv (.t 5), none⟩,
        ⟨(some 47), .mv (.t 6), none⟩,
        ⟨(some 48), .call 77 [(.t 46), (.t 47)], none⟩,
        ⟨(some 45), .mv (.t 48), none⟩,
        ⟨(some 49), .ext (.t 45) 0, none⟩,
        ⟨(some 50), .ext (.t 45) 1, none⟩,
        ⟨(some 9), .mv (.t 49), none⟩] (some [4, 7, 8, 9]))
      (.seq (.region [⟨(some 51), .fA 0 (.t 3), none⟩,
        ⟨(some 52), .ld none (.t 51), none⟩,
        ⟨(some 8), .mv (.t 52), none⟩] (some [4, 5, 6, 7, 8]))
      (.region [⟨(some 54), .mv (.t 6), none⟩,
        ⟨(some 55), .mv (.t 5), none⟩,
        ⟨(some 56), .call 77 [(.t 54), (.t 55)], none⟩,
        ⟨(some 53), .mv (.t 56), none⟩,
        ⟨(some 57), .ext (.t 53) 0, none⟩,
        ⟨(some 58), .ext (.t 53) 1, none⟩,
        ⟨(some 9), .mv (.t 57), none⟩] (some [4, 7, 8, 9])))))
    .skip))
  (.seq (.region [⟨(some 60), .mv (.t 8), none⟩,
    ⟨(some 61), .mv (.t 9), none⟩,
    ⟨(some 62), .mv (.t 7), none⟩,
    ⟨(some 63), .call 78 [(.t 60), (.t 61), (.t 62)], none⟩,
    ⟨(some 59), .mv (.t 63), none⟩,
    ⟨(some 64), .ext (.t 59) 0, none⟩,
    ⟨(some 65), .ext (.t 59) 1, none⟩,
    ⟨(some 10), .alloc [.bool false, .nils, .nils], none⟩,
    ⟨none, .st 3 (.t 10) (.t 64), none⟩,
    ⟨(some 11), .mv (.t 65), none⟩] (some [4, 10]))
  (.seq (.region [⟨(some 66), .ld (some 3) (.t 10), none⟩,
    ⟨none, .st 3 (.t 4) (.t 66), none⟩] (some [4]))
  .ret))))))), [.cell 4 (some 3)]⟩
theorem ref02_Add_ok : cFn Tryz.prog (kps [[2, 3, 4], [2, 3, 4], [2, 3, 4, 5, 6, 7], [2, 3, 4, 5, 6, 7, 8, 9], [3, 4, 5, 6, 7, 8, 9, 40], [3, 4, 5, 6, 7, 8, 44], [4, 7, 8, 9], [4, 5, 6, 7, 8], [4, 7, 8, 9], [4, 10], [4]]) [] 30 = some ref02_Add_c := by kernel_rfl

abbrev ref02_Sub : Nat := 31
def ref02_Sub_c : MFn :=
  ⟨9, (.seq (.region [⟨(some 2), .box (.t 0), none⟩,
    ⟨(some 3), .box (.t 1), none⟩,
    ⟨(some 4), .alloc [.bool false, .nils, .nils], none⟩] (some [2, 3, 4]))
  (.seq (.region [⟨(some 5), .ld (some 3) (.t 2), none⟩,
    ⟨(some 6), .ld (some 3) (.t 3), none⟩,
    ⟨(some 7), .callF 61 [(.t 6)], none⟩,
    ⟨(some 8), .callF 30 [(.t 5), (.t 7)], none⟩,
    ⟨none, .st 3 (.t 4) (.t 8), none⟩] (some [4]))
  .ret)), [.cell 4 (some 3)]⟩
theorem ref02_Sub_ok : cFn Tryz.prog (kps [[2, 3, 4], [4]]) [] 31 = some ref02_Sub_c := by kernel_rfl

abbrev ratio_Zero : Nat := 41
def ratio_Zero_c : MFn :=
  ⟨3, (.seq (.region [⟨(some 0), .alloc [.bool false, .nils, .nils], none⟩] (some [0]))
  (.seq (.region [⟨(some 1), .call 88 [(.c (.int .u64 1))], none⟩,
    ⟨(some 2), .build [.bool false, .nils, .nils] [(2, 1, (.t 1))], none⟩,
    ⟨none, .st 3 (.t 0) (.t 2), none⟩] (some [0]))
  .ret)), [.cell 0 (some 3)]⟩
theorem ratio_Zero_ok : cFn Tryz.prog (kps [[0], [0]]) [] 41 = some ratio_Zero_c := by kernel_rfl

abbrev ratio_Right : Nat := 43
def ratio_Right_c : MFn :=
  ⟨45, (.seq (.region [⟨(some 1), .box (.t 0), none⟩,
    ⟨(some 2), .mv (.c (.bool false)), none⟩] (some [1]))
  (.seq (.seq (.region [⟨(some 5), .fA 1 (.t 1), none⟩,
    ⟨(some 6), .ld none (.t 5), none⟩,
    ⟨(some 7), .call 93 [(.t 6)], none⟩,
    ⟨(some 8), .un .not (.t 7), none⟩,
    ⟨(some 9), .mv (.t 8), none⟩,
    ⟨(some 10), .fA 2 (.t 1), (some (9, false))⟩,
    ⟨(some 11), .ld none (.t 10), (some (9, false))⟩,
    ⟨(some 12), .call 93 [(.t 11)], (some (9, false))⟩,
    ⟨(some 13), .un .not (.t 12), (some (9, false))⟩,
    ⟨(some 14), .pick (.t 9) (.c (.bool true)) (.t 13), none⟩,
    ⟨(some 15), .mv (.t 14), none⟩,
    ⟨(some 16), .fA 2 (.t 1), (some (15, false))⟩,
    ⟨(some 17), .ld none (.t 16), (some (15, false))⟩,
    ⟨(some 18), .lenS (.t 17), (some (15, false))⟩,
    ⟨(some 19), .bin .eql (.t 18) (.c (.int .i64 0)), (some (15, false))⟩,
    ⟨(some 20), .pick (.t 15) (.c (.bool true)) (.t 19), none⟩,
    ⟨(some 21), .mv (.t 20), none⟩,
    ⟨(some 22), .fA 1 (.t 1), (some (21, false))⟩,
    ⟨(some 23), .ld none (.t 22), (some (21, false))⟩,
    ⟨(some 24), .lenS (.t 23), (some (21, false))⟩,
    ⟨(some 25), .bin .eql (.t 24) (.c (.int .i64 0)), (some (21, false))⟩,
    ⟨(some 26), .mv (.t 25), (some (21, false))⟩,
    ⟨(some 27), .fA 0 (.t 1), (some (26, true))⟩,
    ⟨(some 28), .ld none (.t 27), (some (26, true))⟩,
    ⟨(some 29), .pick (.t 26) (.t 28) (.c (.bool false)), (some (21, false))⟩,
    ⟨(some 30), .pick (.t 21) (.c (.bool true)) (.t 29), none⟩] (some [1, 30]))
  (.cond (.t 30)
    (.seq (.region [⟨(some 2), .mv (.c (.bool false)), none⟩] (some [2]))
    .ret)
    .skip))
  (.seq (.region [⟨(some 32), .fA 1 (.t 1), none⟩,
    ⟨(some 33), .ld none (.t 32), none⟩,
    ⟨(some 34), .fA 2 (.t 1), none⟩,
    ⟨(some 35), .ld none (.t 34), none⟩,
    ⟨(some 36), .call 95 [(.t 33), (.t 35)], none⟩,
    ⟨(some 37), .call 94 [(.t 36)], none⟩,
    ⟨(some 31), .mv (.t 37), none⟩,
    ⟨(some 38), .ext (.t 31) 0, none⟩,
    ⟨(some 39), .ext (.t 31) 1, none⟩,
    ⟨(some 3), .mv (.t 38), none⟩,
    ⟨(some 4), .mv (.t 39), none⟩] (some [3, 4]))
  (.seq (.region [⟨(some 40), .mv (.t 4), none⟩,
    ⟨(some 41), .mv (.t 40), none⟩,
    ⟨(some 42), .mv (.t 3), (some (41, true))⟩,
    ⟨(some 43), .bin .eql (.t 42) (.c (.int .u64 1)), (some (41, true))⟩,
    ⟨(some 44), .pick (.t 41) (.t 43) (.c (.bool false)), none⟩,
    ⟨(some 2), .mv (.t 44), none⟩] (some [2]))
  .ret)))), [.t 2]⟩
theorem ratio_Right_ok : cFn Tryz.prog (kps [[1], [1, 30], [2], [3, 4], [2]]) [] 43 = some ratio_Right_c := by kernel_rfl

abbrev ratio_Sign : Nat := 44
def ratio_Sign_c : MFn :=
  ⟨17, (.seq (.region [⟨(some 1), .box (.t 0), none⟩,
    ⟨(some 2), .mv (.c (.int .i64 0)), none⟩] (some [1]))
  (.seq (.block 0 (.seq (.region [⟨(some 4), .fA 1 (.t 1), none⟩,
      ⟨(some 5), .ld none (.t 4), none⟩,
      ⟨(some 6), .call 96 [(.t 5), (.c (.nils))], none⟩,
      ⟨(some 7), .bin .eql (.t 6) (.c (.int .i64 0)), none⟩,
      ⟨(some 8), .mv (.t 7), none⟩,
      ⟨(some 9), .fA 2 (.t 1), (some (8, false))⟩,
      ⟨(some 10), .ld none (.t 9), (some (8, false))⟩,
      ⟨(some 11), .call 96 [(.t 10), (.c (.nils))], (some (8, false))⟩,
      ⟨(some 12), .bin .eql (.t 11) (.c (.int .i64 0)), (some (8, false))⟩,
      ⟨(some 13), .pick (.t 8) (.c (.bool true)) (.t 12), none⟩,
      ⟨(some 3), .mv (.t 13), none⟩] (some [1, 3]))
    (.cond (.t 3)
      (.seq (.region [⟨(some 2), .mv (.c (.int .i64 0)), none⟩] (some [2]))
      .ret)
      (.seq (.region [⟨(some 15), .fA 0 (.t 1), none⟩,
        ⟨(some 16), .ld none (.t 15), none⟩,
        ⟨(some 14), .mv (.t 16), none⟩] (some [14]))
      (.cond (.t 14)
        (.seq (.region [⟨(some 2), .mv (.c (.int .i64 (-1))), none⟩] (some [2]))
        .ret)
        .skip)))))
  (.seq (.region [⟨(some 2), .mv (.c (.int .i64 1)), none⟩] (some [2]))
  .ret))), [.t 2]⟩
theorem ratio_Sign_ok : cFn Tryz.prog (kps [[1], [1, 3], [2], [14], [2], [2]]) [] 44 = some ratio_Sign_c := by kernel_rfl

abbrev ratio_Add : Nat := 46
def ratio_Add_c : MFn :=
  ⟨77, (.seq (.region [⟨(some 2), .box (.t 0), none⟩,
    ⟨(some 3), .box (.t 1), none⟩,
    ⟨(some 4), .alloc [.bool false, .nils, .nils], none⟩] (some [2, 3, 4]))
  (.seq (.block 0 (.seq (.region [⟨(some 11), .ld (some 3) (.t 2), none⟩,
      ⟨(some 12), .call 44 [(.t 11)], none⟩,
      ⟨(some 13), .bin .eql (.t 12) (.c (.int .i64 0)), none⟩,
      ⟨(some 10), .mv (.t 13), none⟩] (some [2, 3, 4, 10]))
    (.cond (.t 10)
      (.seq (.region [⟨(some 14), .fA 0 (.t 3), none⟩,
        ⟨(some 15), .ld none (.t 14), none⟩,
        ⟨(some 16), .fA 1 (.t 3), none⟩,
        ⟨(some 17), .ld none (.t 16), none⟩,
        ⟨(some 18), .fA 2 (.t 3), none⟩,
        ⟨(some 19), .ld none (.t 18), none⟩,
        ⟨(some 20), .call 99 [(.t 15), (.t 17), (.t 19)], none⟩,
        ⟨none, .st 3 (.t 4) (.t 20), none⟩] (some [4]))
      .ret)
      (.seq (.region [⟨(some 22), .ld (some 3) (.t 3), none⟩,
        ⟨(some 23), .call 44 [(.t 22)], none⟩,
        ⟨(some 24), .bin .eql (.t 23) (.c (.int .i64 0)), none⟩,
        ⟨(some 21), .mv (.t 24), none⟩] (some [2, 3, 4, 21]))
      (.cond (.t 21)
        (.seq (.region [⟨(some 25), .fA 0 (.t 2), none⟩,
          ⟨(some 26), .ld none (.t 25), none⟩,
          ⟨(some 27), .fA 1 (.t 2), none⟩,
          ⟨(some 28), .ld none (.t 27), none⟩,
          ⟨(some 29), .fA 2 (.t 2), none⟩,
          ⟨(some 30), .ld none (.t 29), none⟩,
          ⟨(some 31), .call 99 [(.t 26), (.t 28), (.t 30)], none⟩,
          ⟨none, .st 3 (.t 4) (.t 31), none⟩] (some [4]))
        .ret)
        .skip)))))
  (.seq (.region [⟨(some 32), .fA 1 (.t 2), none⟩,
    ⟨(some 33), .ld none (.t 32), none⟩,
    ⟨(some 34), .fA 2 (.t 3), none⟩,
    ⟨(some 35), .ld none (.t 34), none⟩,
    ⟨(some 36), .callF 100 [(.t 33), (.t 35)], none⟩,
    ⟨(some 37), .fA 1 (.t 3), none⟩,
    ⟨(some 38), .ld none (.t 37), none⟩,
    ⟨(some 39), .fA 2 (.t 2), none⟩,
    ⟨(some 40), .ld none (.t 39), none⟩,
    ⟨(some 41), .callF 100 [(.t 38), (.t 40)], none⟩,
    ⟨(some 42), .fA 2 (.t 2), none⟩,
    ⟨(some 43), .ld none (.t 42), none⟩,
    ⟨(some 44), .fA 2 (.t 3), none⟩,
    ⟨(some 45), .ld none (.t 44), none⟩,
    ⟨(some 46), .callF 100 [(.t 43), (.t 45)], none⟩,
    ⟨(some 5), .mv (.t 36), none⟩,
    ⟨(some 6), .mv (.t 41), none⟩,
    ⟨(some 7), .mv (.t 46), none⟩] (some [2, 3, 4, 5, 6, 7]))
  (.seq (.seq (.region [⟨(some 47), .fA 0 (.t 2), none⟩,
    ⟨(some 48), .ld none (.t 47), none⟩,
    ⟨(some 49), .fA 0 (.t 3), none⟩,
    ⟨(some 50), .ld none (.t 49), none⟩,
    ⟨(some 51), .binB .eql (.t 48) (.t 50), none⟩] (some [2, 3, 4, 5, 6, 7, 51]))
  (.cond (.t 51)
    (.seq (.region [⟨(some 52), .fA 0 (.t 2), none⟩,
      ⟨(some 53), .ld none (.t 52), none⟩,
      ⟨(some 54), .mv (.t 5), none⟩,
      ⟨(some 55), .mv (.t 6), none⟩,
      ⟨(some 56), .callF 101 [(.t 54), (.t 55)], none⟩,
      ⟨(some 57), .mv (.t 7), none⟩,
      ⟨(some 58), .callF 99 [(.t 53), (.t 56), (.t 57)], none⟩,
      ⟨none, .st 3 (.t 4) (.t 58), none⟩] (some [4]))
    .ret)
    .skip))
  (.seq (.seq (.region [⟨(some 59), .mv (.t 5), none⟩,
    ⟨(some 60), .mv (.t 6), none⟩,
    ⟨(some 61), .call 96 [(.t 59), (.t 60)], none⟩,
    ⟨(some 62), .bin .lss (.t 61) (.c (.int .i64 0)), none⟩] (some [2, 3, 4, 5, 6, 7, 62]))
  (.cond (.t 62)
    (.region [⟨(some 63), .ld (some 3) (.t 3), none⟩,
      ⟨(some 64), .mv (.t 6), none⟩,
      ⟨(some 65), .mv (.t 5), none⟩,
      ⟨none, .st 3 (.t 2) (.t 63), none⟩,
      ⟨(some 5), .mv (.t 64), none⟩,
      ⟨(some 6), .mv (.t 65), none⟩] (some [2, 4, 5, 6, 7]))
    .skip))
  (.seq (.region [⟨(some 67), .mv (.t 5), none⟩,
    ⟨(some 68), .mv (.t 6), none⟩,
    ⟨(some 69), .call 102 [(.t 67), (.t 68)], none⟩,
    ⟨(some 66), .mv (.t 69), none⟩,
    ⟨(some 70), .ext (.t 66) 0, none⟩,
    ⟨(some 71), .ext (.t 66) 1, none⟩,
    ⟨(some 8), .mv (.t 70), none⟩,
    ⟨(some 9), .mv (.t 71), none⟩] (some [2, 4, 7, 8]))
  (.seq (.region [⟨(some 72), .fA 0 (.t 2), none⟩,
    ⟨(some 73), .ld none (.t 72), none⟩,
    ⟨(some 74), .mv (.t 8), none⟩,
    ⟨(some 75), .mv (.t 7), none⟩,
    ⟨(some 76), .call 99 [(.t 73), (.t 74), (.t 75)], none⟩,
    ⟨none, .st 3 (.t 4) (.t 76), none⟩] (some [4]))
  .ret))))))), [.cell 4 (some 3)]⟩
theorem ratio_Add_ok : cFn Tryz.prog (kps [[2, 3, 4], [2, 3, 4, 10], [4], [2, 3, 4, 21], [4], [2, 3, 4, 5, 6, 7], [2, 3, 4, 5, 6, 7, 51], [4], [2, 3, 4, 5, 6, 7, 62], [2, 4, 5, 6, 7], [2, 4, 7, 8], [4]]) [] 46 = some ratio_Add_c := by kernel_rfl

abbrev ratio_Same : Nat := 47
def ratio_Same_c : MFn :=
  ⟨9, (.seq (.region [⟨(some 2), .box (.t 0), none⟩,
    ⟨(some 3), .box (.t 1), none⟩,
    ⟨(some 4), .mv (.c (.bool false)), none⟩] (some [2, 3]))
  (.seq (.region [⟨(some 5), .ld (some 3) (.t 2), none⟩,
    ⟨(some 6), .ld (some 3) (.t 3), none⟩,
    ⟨(some 7), .call 82 [(.t 5), (.t 6)], none⟩,
    ⟨(some 8), .bin .eql (.t 7) (.c (.int .i64 0)), none⟩,
    ⟨(some 4), .mv (.t 8), none⟩] (some [4]))
  .ret)), [.t 4]⟩
theorem ratio_Same_ok : cFn Tryz.prog (kps [[2, 3], [4]]) [] 47 = some ratio_Same_c := by kernel_rfl

abbrev ratio_One : Nat := 48
def ratio_One_c : MFn :=
  ⟨4, (.seq (.region [⟨(some 0), .alloc [.bool false, .nils, .nils], none⟩] (some [0]))
  (.seq (.region [⟨(some 1), .call 88 [(.c (.int .u64 1))], none⟩,
    ⟨(some 2), .call 88 [(.c (.int .u64 1))], none⟩,
    ⟨(some 3), .build [.bool false, .nils, .nils] [(1, 1, (.t 1)), (2, 1, (.t 2))], none⟩,
    ⟨none, .st 3 (.t 0) (.t 3), none⟩] (some [0]))
  .ret)), [.cell 0 (some 3)]⟩
theorem ratio_One_ok : cFn Tryz.prog (kps [[0], [0]]) [] 48 = some ratio_One_c := by kernel_rfl

abbrev ref02_Right : Nat := 50
def ref02_Right_c : MFn :=
  ⟨41, (.seq (.region [⟨(some 1), .box (.t 0), none⟩,
    ⟨(some 2), .mv (.c (.bool false)), none⟩] (some [1]))
  (.seq (.seq (.region [⟨(some 3), .fA 1 (.t 1), none⟩,
    ⟨(some 4), .ld none (.t 3), none⟩,
    ⟨(some 5), .call 105 [(.t 4)], none⟩,
    ⟨(some 6), .un .not (.t 5), none⟩,
    ⟨(some 7), .mv (.t 6), none⟩,
    ⟨(some 8), .fA 2 (.t 1), (some (7, false))⟩,
    ⟨(some 9), .ld none (.t 8), (some (7, false))⟩,
    ⟨(some 10), .call 105 [(.t 9)], (some (7, false))⟩,
    ⟨(some 11), .un .not (.t 10), (some (7, false))⟩,
    ⟨(some 12), .pick (.t 7) (.c (.bool true)) (.t 11), none⟩,
    ⟨(some 13), .mv (.t 12), none⟩,
    ⟨(some 14), .fA 2 (.t 1), (some (13, false))⟩,
    ⟨(some 15), .ld none (.t 14), (some (13, false))⟩,
    ⟨(some 16), .lenS (.t 15), (some (13, false))⟩,
    ⟨(some 17), .bin .eql (.t 16) (.c (.int .i64 0)), (some (13, false))⟩,
    ⟨(some 18), .pick (.t 13) (.c (.bool true)) (.t 17), none⟩] (some [1, 18]))
  (.cond (.t 18)
    (.seq (.region [⟨(some 2), .mv (.c (.bool false)), none⟩] (some [2]))
    .ret)
    .skip))
  (.seq (.seq (.region [⟨(some 19), .fA 1 (.t 1), none⟩,
    ⟨(some 20), .ld none (.t 19), none⟩,
    ⟨(some 21), .lenS (.t 20), none⟩,
    ⟨(some 22), .bin .eql (.t 21) (.c (.int .i64 0)), none⟩] (some [1, 22]))
  (.cond (.t 22)
    (.seq (.region [⟨(some 23), .fA 0 (.t 1), none⟩,
      ⟨(some 24), .ld none (.t 23), none⟩,
      ⟨(some 25), .un .not (.t 24), none⟩,
      ⟨(some 26), .mv (.t 25), none⟩,
      ⟨(some 27), .fA 2 (.t 1), (some (26, true))⟩,
      ⟨(some 28), .ld none (.t 27), (some (26, true))⟩,
      ⟨(some 29), .callF 72 [(.c (.int .u64 1))], (some (26, true))⟩,
      ⟨(some 30), .callF 76 [(.t 28), (.t 29)], (some (26, true))⟩,
      ⟨(some 31), .bin .eql (.t 30) (.c (.int .i64 0)), (some (26, true))⟩,
      ⟨(some 32), .pick (.t 26) (.t 31) (.c (.bool false)), none⟩,
      ⟨(some 2), .mv (.t 32), none⟩] (some [2]))
    .ret)
    .skip))
  (.seq (.region [⟨(some 33), .fA 1 (.t 1), none⟩,
    ⟨(some 34), .ld none (.t 33), none⟩,
    ⟨(some 35), .fA 2 (.t 1), none⟩,
    ⟨(some 36), .ld none (.t 35), none⟩,
    ⟨(some 37), .call 106 [(.t 34), (.t 36)], none⟩,
    ⟨(some 38), .call 72 [(.c (.int .u64 1))], none⟩,
    ⟨(some 39), .call 76 [(.t 37), (.t 38)], none⟩,
    ⟨(some 40), .bin .eql (.t 39) (.c (.int .i64 0)), none⟩,
    ⟨(some 2), .mv (.t 40), none⟩] (some [2]))
  .ret)))), [.t 2]⟩
theorem ref02_Right_ok : cFn Tryz.prog (kps [[1], [1, 18], [2], [1, 22], [2], [2]]) [] 50 = some ref02_Right_c := by kernel_rfl

abbrev ref02_Sign : Nat := 51
def ref02_Sign_c : MFn :=
  ⟨13, (.seq (.region [⟨(some 1), .box (.t 0), none⟩,
    ⟨(some 2), .mv (.c (.int .i64 0)), none⟩] (some [1]))
  (.seq (.region [⟨(some 3), .ld (some 3) (.t 1), none⟩,
    ⟨(some 4), .call 73 [(.t 3)], none⟩,
    ⟨none, .st 3 (.t 1) (.t 4), none⟩] (some [1]))
  (.seq (.block 0 (.seq (.region [⟨(some 6), .fA 1 (.t 1), none⟩,
      ⟨(some 7), .ld none (.t 6), none⟩,
      ⟨(some 8), .lenS (.t 7), none⟩,
      ⟨(some 9), .bin .eql (.t 8) (.c (.int .i64 0)), none⟩,
      ⟨(some 5), .mv (.t 9), none⟩] (some [1, 5]))
    (.cond (.t 5)
      (.seq (.region [⟨(some 2), .mv (.c (.int .i64 0)), none⟩] (some [2]))
      .ret)
      (.seq (.region [⟨(some 11), .fA 0 (.t 1), none⟩,
        ⟨(some 12), .ld none (.t 11), none⟩,
        ⟨(some 10), .mv (.t 12), none⟩] (some [10]))
      (.cond (.t 10)
        (.seq (.region [⟨(some 2), .mv (.c (.int .i64 (-1))), none⟩] (some [2]))
        .ret)
        .skip)))))
  (.seq (.region [⟨(some 2), .mv (.c (.int .i64 1)), none⟩] (some [2]))
  .ret)))), [.t 2]⟩
theorem ref02_Sign_ok : cFn Tryz.prog (kps [[1], [1], [1, 5], [2], [10], [2], [2]]) [] 51 = some ref02_Sign_c := by kernel_rfl

abbrev ref02_One : Nat := 53
def ref02_One_c : MFn :=
  ⟨4, (.seq (.region [⟨(some 0), .alloc [.bool false, .nils, .nils], none⟩] (some [0]))
  (.seq (.region [⟨(some 1), .call 72 [(.c (.int .u64 1))], none⟩,
    ⟨(some 2), .call 72 [(.c (.int .u64 1))], none⟩,
    ⟨(some 3), .build [.bool false, .nils, .nils] [(1, 1, (.t 1)), (2, 1, (.t 2))], none⟩,
    ⟨none, .st 3 (.t 0) (.t 3), none⟩] (some [0]))
  .ret)), [.cell 0 (some 3)]⟩
theorem ref02_One_ok : cFn Tryz.prog (kps [[0], [0]]) [] 53 = some ref02_One_c := by kernel_rfl

abbrev ratio_Sub : Nat := 56
def ratio_Sub_c : MFn :=
  ⟨9, (.seq (.region [⟨(some 2), .box (.t 0), none⟩,
    ⟨(some 3), .box (.t 1), none⟩,
    ⟨(some 4), .alloc [.bool false, .nils, .nils], none⟩] (some [2, 3, 4]))
  (.seq (.region [⟨(some 5), .ld (some 3) (.t 2), none⟩,
    ⟨(some 6), .ld (some 3) (.t 3), none⟩,
    ⟨(some 7), .callF 109 [(.t 6)], none⟩,
    ⟨(some 8), .callF 46 [(.t 5), (.t 7)], none⟩,
    ⟨none, .st 3 (.t 4) (.t 8), none⟩] (some [4]))
  .ret)), [.cell 4 (some 3)]⟩
theorem ratio_Sub_ok : cFn Tryz.prog (kps [[2, 3, 4], [4]]) [] 56 = some ratio_Sub_c := by kernel_rfl

abbrev ref02_Neg : Nat := 61
def ref02_Neg_c : MFn :=
  ⟨16, (.seq (.region [⟨(some 1), .box (.t 0), none⟩,
    ⟨(some 2), .alloc [.bool false, .nils, .nils], none⟩] (some [1, 2]))
  (.seq (.region [⟨(some 3), .ld (some 3) (.t 1), none⟩,
    ⟨(some 4), .call 73 [(.t 3)], none⟩,
    ⟨none, .st 3 (.t 1) (.t 4), none⟩] (some [1, 2]))
  (.seq (.region [⟨(some 5), .fA 0 (.t 1), none⟩,
    ⟨(some 6), .ld none (.t 5), none⟩,
    ⟨(some 7), .un .not (.t 6), none⟩,
    ⟨(some 8), .mv (.t 7), none⟩,
    ⟨(some 9), .fA 1 (.t 1), (some (8, true))⟩,
    ⟨(some 10), .ld none (.t 9), (some (8, true))⟩,
    ⟨(some 11), .lenS (.t 10), (some (8, true))⟩,
    ⟨(some 12), .bin .gtr (.t 11) (.c (.int .i64 0)), (some (8, true))⟩,
    ⟨(some 13), .pick (.t 8) (.t 12) (.c (.bool false)), none⟩,
    ⟨(some 14), .fA 0 (.t 1), none⟩,
    ⟨none, .st 1 (.t 14) (.t 13), none⟩] (some [1, 2]))
  (.seq (.region [⟨(some 15), .ld (some 3) (.t 1), none⟩,
    ⟨none, .st 3 (.t 2) (.t 15), none⟩] (some [2]))
  .ret)))), [.cell 2 (some 3)]⟩
theorem ref02_Neg_ok : cFn Tryz.prog (kps [[1, 2], [1, 2], [1, 2], [2]]) [] 61 = some ref02_Neg_c := by kernel_rfl

abbrev ref02_Make : Nat := 62
def ref02_Make_c : MFn :=
  ⟨28, (.seq (.region [⟨(some 4), .alloc [.bool false, .nils, .nils], none⟩,
    ⟨(some 5), .mv (.c (.int .i64 0)), none⟩] (some [0, 1, 4]))
  (.seq (.region [⟨(some 11), .mv (.t 0), none⟩,
    ⟨(some 12), .call 113 [(.t 11)], none⟩,
    ⟨(some 10), .mv (.t 12), none⟩,
    ⟨(some 13), .ext (.t 10) 0, none⟩,
    ⟨(some 14), .ext (.t 10) 1, none⟩,
    ⟨(some 6), .mv (.t 13), none⟩,
    ⟨(some 7), .mv (.t 14), none⟩] (some [1, 4, 6, 7]))
  (.seq (.region [⟨(some 16), .mv (.t 1), none⟩,
    ⟨(some 17), .call 113 [(.t 16)], none⟩,
    ⟨(some 15), .mv (.t 17), none⟩,
    ⟨(some 18), .ext (.t 15) 0, none⟩,
    ⟨(some 19), .ext (.t 15) 1, none⟩,
    ⟨(some 8), .mv (.t 18), none⟩,
    ⟨(some 9), .mv (.t 19), none⟩] (some [4, 6, 7, 8, 9]))
  (.seq (.region [⟨(some 20), .mv (.t 7), none⟩,
    ⟨(some 21), .mv (.t 9), none⟩,
    ⟨(some 22), .binB .neq (.t 20) (.t 21), none⟩,
    ⟨(some 23), .mv (.t 6), none⟩,
    ⟨(some 24), .mv (.t 8), none⟩,
    ⟨(some 25), .call 78 [(.t 22), (.t 23), (.t 24)], none⟩,
    ⟨(some 26), .ext (.t 25) 0, none⟩,
    ⟨(some 27), .ext (.t 25) 1, none⟩,
    ⟨none, .st 3 (.t 4) (.t 26), none⟩,
    ⟨(some 5), .mv (.t 27), none⟩] (some [4, 5]))
  .ret)))), [.cell 4 (some 3), .t 5]⟩
theorem ref02_Make_ok : cFn Tryz.prog (kps [[0, 1, 4], [1, 4, 6, 7], [4, 6, 7, 8, 9], [4, 5]]) [] 62 = some ref02_Make_c := by kernel_rfl

abbrev ref02_Mul : Nat := 63
def ref02_Mul_c : MFn :=
  ⟨31, (.seq (.region [⟨(some 2), .box (.t 0), none⟩,
    ⟨(some 3), .box (.t 1), none⟩,
    ⟨(some 4), .alloc [.bool false, .nils, .nils], none⟩] (some [2, 3, 4]))
  (.seq (.region [⟨(some 7), .ld (some 3) (.t 2), none⟩,
    ⟨(some 8), .callF 73 [(.t 7)], none⟩,
    ⟨(some 9), .ld (some 3) (.t 3), none⟩,
    ⟨(some 10), .callF 73 [(.t 9)], none⟩,
    ⟨none, .st 3 (.t 2) (.t 8), none⟩,
    ⟨none, .st 3 (.t 3) (.t 10), none⟩] (some [2, 3, 4]))
  (.seq (.region [⟨(some 12), .fA 0 (.t 2), none⟩,
    ⟨(some 13), .ld none (.t 12), none⟩,
    ⟨(some 14), .fA 0 (.t 3), none⟩,
    ⟨(some 15), .ld none (.t 14), none⟩,
    ⟨(some 16), .binB .neq (.t 13) (.t 15), none⟩,
    ⟨(some 17), .fA 1 (.t 2), none⟩,
    ⟨(some 18), .ld none (.t 17), none⟩,
    ⟨(some 19), .fA 1 (.t 3), none⟩,
    ⟨(some 20), .ld none (.t 19), none⟩,
    ⟨(some 21), .callF 74 [(.t 18), (.t 20)], none⟩,
    ⟨(some 22), .fA 2 (.t 2), none⟩,
    ⟨(some 23), .ld none (.t 22), none⟩,
    ⟨(some 24), .fA 2 (.t 3), none⟩,
    ⟨(some 25), .ld none (.t 24), none⟩,
    ⟨(some 26), .callF 74 [(.t 23), (.t 25)], none⟩,
    ⟨(some 27), .callF 78 [(.t 16), (.t 21), (.t 26)], none⟩,
    ⟨(some 11), .mv (.t 27), none⟩,
    ⟨(some 28), .ext (.t 11) 0, none⟩,
    ⟨(some 29), .ext (.t 11) 1, none⟩,
    ⟨(some 5), .alloc [.bool false, .nils, .nils], none⟩,
    ⟨none, .st 3 (.t 5) (.t 28), none⟩,
    ⟨(some 6), .mv (.t 29), none⟩] (some [4, 5]))
  (.seq (.region [⟨(some 30), .ld (some 3) (.t 5), none⟩,
    ⟨none, .st 3 (.t 4) (.t 30), none⟩] (some [4]))
  .ret)))), [.cell 4 (some 3)]⟩
theorem ref02_Mul_ok : cFn Tryz.prog (kps [[2, 3, 4], [2, 3, 4], [4, 5], [4]]) [] 63 = some ref02_Mul_c := by kernel_rfl

abbrev ratio_Least : Nat := 64
def ratio_Least_c : MFn :=
  ⟨17, (.seq (.region [⟨(some 2), .box (.t 0), none⟩,
    ⟨(some 3), .box (.t 1), none⟩,
    ⟨(some 4), .alloc [.bool false, .nils, .nils], none⟩] (some [2, 3, 4]))
  (.seq (.seq (.region [⟨(some 5), .ld (some 3) (.t 3), none⟩,
    ⟨(some 6), .ld (some 3) (.t 2), none⟩,
    ⟨(some 7), .call 82 [(.t 5), (.t 6)], none⟩,
    ⟨(some 8), .bin .lss (.t 7) (.c (.int .i64 0)), none⟩] (some [2, 3, 4, 8]))
  (.cond (.t 8)
    (.region [⟨(some 9), .ld (some 3) (.t 3), none⟩,
      ⟨none, .st 3 (.t 2) (.t 9), none⟩] (some [2, 4]))
    .skip))
  (.seq (.region [⟨(some 10), .fA 0 (.t 2), none⟩,
    ⟨(some 11), .ld none (.t 10), none⟩,
    ⟨(some 12), .fA 1 (.t 2), none⟩,
    ⟨(some 13), .ld none (.t 12), none⟩,
    ⟨(some 14), .fA 2 (.t 2), none⟩,
    ⟨(some 15), .ld none (.t 14), none⟩,
    ⟨(some 16), .call 99 [(.t 11), (.t 13), (.t 15)], none⟩,
    ⟨none, .st 3 (.t 4) (.t 16), none⟩] (some [4]))
  .ret))), [.cell 4 (some 3)]⟩
theorem ratio_Least_ok : cFn Tryz.prog (kps [[2, 3, 4], [2, 3, 4, 8], [2, 4], [4]]) [] 64 = some ratio_Least_c := by kernel_rfl

abbrev ref02_Least : Nat := 69
def ref02_Least_c : MFn :=
  ⟨13, (.seq (.region [⟨(some 2), .box (.t 0), none⟩,
    ⟨(some 3), .box (.t 1), none⟩,
    ⟨(some 4), .alloc [.bool false, .nils, .nils], none⟩] (some [2, 3, 4]))
  (.seq (.seq (.region [⟨(some 5), .ld (some 3) (.t 3), none⟩,
    ⟨(some 6), .ld (some 3) (.t 2), none⟩,
    ⟨(some 7), .call 27 [(.t 5), (.t 6)], none⟩,
    ⟨(some 8), .bin .lss (.t 7) (.c (.int .i64 0)), none⟩] (some [2, 3, 4, 8]))
  (.cond (.t 8)
    (.seq (.region [⟨(some 9), .ld (some 3) (.t 3), none⟩,
      ⟨(some 10), .call 73 [(.t 9)], none⟩,
      ⟨none, .st 3 (.t 4) (.t 10), none⟩] (some [4]))
    .ret)
    .skip))
  (.seq (.region [⟨(some 11), .ld (some 3) (.t 2), none⟩,
    ⟨(some 12), .call 73 [(.t 11)], none⟩,
    ⟨none, .st 3 (.t 4) (.t 12), none⟩] (some [4]))
  .ret))), [.cell 4 (some 3)]⟩
theorem ref02_Least_ok : cFn Tryz.prog (kps [[2, 3, 4], [2, 3, 4, 8], [4], [4]]) [] 69 = some ref02_Least_c := by kernel_rfl

abbrev ref02_valid : Nat := 73
def ref02_valid_c : MFn :=
  ⟨19, (.seq (.region [⟨(some 1), .box (.t 0), none⟩,
    ⟨(some 2), .alloc [.bool false, .nils, .nils], none⟩] (some [1, 2]))
  (.seq (.region [⟨(some 6), .fA 0 (.t 1), none⟩,
    ⟨(some 7), .ld none (.t 6), none⟩,
    ⟨(some 8), .fA 1 (.t 1), none⟩,
    ⟨(some 9), .ld none (.t 8), none⟩,
    ⟨(some 10), .fA 2 (.t 1), none⟩,
    ⟨(some 11), .ld none (.t 10), none⟩,
    ⟨(some 12), .call 78 [(.t 7), (.t 9), (.t 11)], none⟩,
    ⟨(some 5), .mv (.t 12), none⟩,
    ⟨(some 13), .ext (.t 5) 0, none⟩,
    ⟨(some 14), .ext (.t 5) 1, none⟩,
    ⟨(some 3), .alloc [.bool false, .nils, .nils], none⟩,
    ⟨none, .st 3 (.t 3) (.t 13), none⟩,
    ⟨(some 4), .mv (.t 14), none⟩] (some [2, 3, 4]))
  (.seq (.seq (.region [⟨(some 15), .mv (.t 4), none⟩,
    ⟨(some 16), .bin .neq (.t 15) (.c (.int .i64 0)), none⟩] (some [2, 3, 16]))
  (.cond (.t 16)
    (.seq (.region [⟨(some 17), .call 29 [], none⟩,
      ⟨none, .st 3 (.t 2) (.t 17), none⟩] (some [2]))
    .ret)
    .skip))
  (.seq (.region [⟨(some 18), .ld (some 3) (.t 3), none⟩,
    ⟨none, .st 3 (.t 2) (.t 18), none⟩] (some [2]))
  .ret)))), [.cell 2 (some 3)]⟩
theorem ref02_valid_ok : cFn Tryz.prog (kps [[1, 2], [2, 3, 4], [2, 3, 16], [2], [2]]) [] 73 = some ref02_valid_c := by kernel_rfl

abbrev ref02_Of : Nat := 78
def ref02_Of_c : MFn :=
  ⟨45, (.seq (.region [⟨(some 6), .alloc [.bool false, .nils, .nils], none⟩,
    ⟨(some 7), .mv (.c (.int .i64 0)), none⟩] (some [0, 1, 2, 6]))
  (.seq (.seq (.region [⟨(some 15), .mv (.t 2), none⟩,
    ⟨(some 16), .call 117 [(.t 15)], none⟩,
    ⟨(some 17), .bin .eql (.t 16) (.c (.int .i64 0)), none⟩] (some [0, 1, 2, 6, 17]))
  (.cond (.t 17)
    (.seq (.region [⟨(some 18), .build [.bool false, .nils, .nils] [], none⟩,
      ⟨none, .st 3 (.t 6) (.t 18), none⟩,
      ⟨(some 7), .mv (.c (.int .i64 31)), none⟩] (some [6, 7]))
    .ret)
    .skip))
  (.seq (.region [⟨(some 19), .mv (.t 1), none⟩,
    ⟨(some 20), .mv (.t 2), none⟩,
    ⟨(some 21), .call 106 [(.t 19), (.t 20)], none⟩,
    ⟨(some 8), .mv (.t 21), none⟩] (some [0, 1, 2, 6, 8]))
  (.seq (.region [⟨(some 23), .mv (.t 1), none⟩,
    ⟨(some 24), .mv (.t 8), none⟩,
    ⟨(some 25), .call 118 [(.t 23), (.t 24)], none⟩,
    ⟨(some 22), .mv (.t 25), none⟩,
    ⟨(some 26), .ext (.t 22) 0, none⟩,
    ⟨(some 27), .ext (.t 22) 1, none⟩,
    ⟨(some 28), .ext (.t 22) 2, none⟩,
    ⟨(some 9), .mv (.t 26), none⟩,
    ⟨(some 10), .mv (.t 27), none⟩,
    ⟨(some 11), .mv (.t 28), none⟩] (some [0, 2, 6, 8, 9]))
  (.seq (.region [⟨(some 30), .mv (.t 2), none⟩,
    ⟨(some 31), .mv (.t 8), none⟩,
    ⟨(some 32), .call 118 [(.t 30), (.t 31)], none⟩,
    ⟨(some 29), .mv (.t 32), none⟩,
    ⟨(some 33), .ext (.t 29) 0, none⟩,
    ⟨(some 34), .ext (.t 29) 1, none⟩,
    ⟨(some 35), .ext (.t 29) 2, none⟩,
    ⟨(some 12), .mv (.t 33), none⟩,
    ⟨(some 13), .mv (.t 34), none⟩,
    ⟨(some 14), .mv (.t 35), none⟩] (some [0, 6, 9, 12]))
  (.seq (.region [⟨(some 36), .mv (.t 0), none⟩,
    ⟨(some 37), .mv (.t 36), none⟩,
    ⟨(some 38), .mv (.t 9), (some (37, true))⟩,
    ⟨(some 39), .lenS (.t 38), (some (37, true))⟩,
    ⟨(some 40), .bin .gtr (.t 39) (.c (.int .i64 0)), (some (37, true))⟩,
    ⟨(some 41), .pick (.t 37) (.t 40) (.c (.bool false)), none⟩,
    ⟨(some 42), .mv (.t 9), none⟩,
    ⟨(some 43), .mv (.t 12), none⟩,
    ⟨(some 44), .build [.bool false, .nils, .nils] [(0, 1, (.t 41)), (1, 1, (.t 42)), (2, 1, (.t 43))], none⟩,
    ⟨none, .st 3 (.t 6) (.t 44), none⟩,
    ⟨(some 7), .mv (.c (.int .i64 0)), none⟩] (some [6, 7]))
  .ret)))))), [.cell 6 (some 3), .t 7]⟩
theorem ref02_Of_ok : cFn Tryz.prog (kps [[0, 1, 2, 6], [0, 1, 2, 6, 17], [6, 7], [0, 1, 2, 6, 8], [0, 2, 6, 8, 9], [0, 6, 9, 12], [6, 7]]) [] 78 = some ref02_Of_c := by kernel_rfl

abbrev ratio_Compare : Nat := 82
def ratio_Compare_c : MFn :=
  ⟨32, (.seq (.region [⟨(some 2), .box (.t 0), none⟩,
    ⟨(some 3), .box (.t 1), none⟩,
    ⟨(some 4), .mv (.c (.int .i64 0)), none⟩] (some [2, 3]))
  (.seq (.region [⟨(some 7), .ld (some 3) (.t 2), none⟩,
    ⟨(some 8), .callF 44 [(.t 7)], none⟩,
    ⟨(some 9), .ld (some 3) (.t 3), none⟩,
    ⟨(some 10), .callF 44 [(.t 9)], none⟩,
    ⟨(some 5), .mv (.t 8), none⟩,
    ⟨(some 6), .mv (.t 10), none⟩] (some [2, 3, 5, 6]))
  (.seq (.block 0 (.seq (.region [⟨(some 12), .mv (.t 5), none⟩,
      ⟨(some 13), .mv (.t 6), none⟩,
      ⟨(some 14), .bin .lss (.t 12) (.t 13), none⟩,
      ⟨(some 11), .mv (.t 14), none⟩] (some [2, 3, 5, 6, 11]))
    (.cond (.t 11)
      (.seq (.region [⟨(some 4), .mv (.c (.int .i64 (-1))), none⟩] (some [4]))
      .ret)
      (.seq (.region [⟨(some 16), .mv (.t 5), none⟩,
        ⟨(some 17), .mv (.t 6), none⟩,
        ⟨(some 18), .bin .gtr (.t 16) (.t 17), none⟩,
        ⟨(some 15), .mv (.t 18), none⟩] (some [2, 3, 5, 15]))
      (.cond (.t 15)
        (.seq (.region [⟨(some 4), .mv (.c (.int .i64 1)), none⟩] (some [4]))
        .ret)
        .skip)))))
  (.seq (.region [⟨(some 19), .mv (.t 5), none⟩,
    ⟨(some 20), .fA 1 (.t 2), none⟩,
    ⟨(some 21), .ld none (.t 20), none⟩,
    ⟨(some 22), .fA 2 (.t 3), none⟩,
    ⟨(some 23), .ld none (.t 22), none⟩,
    ⟨(some 24), .callF 100 [(.t 21), (.t 23)], none⟩,
    ⟨(some 25), .fA 1 (.t 3), none⟩,
    ⟨(some 26), .ld none (.t 25), none⟩,
    ⟨(some 27), .fA 2 (.t 2), none⟩,
    ⟨(some 28), .ld none (.t 27), none⟩,
    ⟨(some 29), .callF 100 [(.t 26), (.t 28)], none⟩,
    ⟨(some 30), .callF 96 [(.t 24), (.t 29)], none⟩,
    ⟨(some 31), .bin .mul (.t 19) (.t 30), none⟩,
    ⟨(some 4), .mv (.t 31), none⟩] (some [4]))
  .ret)))), [.t 4]⟩
theorem ratio_Compare_ok : cFn Tryz.prog (kps [[2, 3], [2, 3, 5, 6], [2, 3, 5, 6, 11], [4], [2, 3, 5, 15], [4], [4]]) [] 82 = some ratio_Compare_c := by kernel_rfl

abbrev ratio_made : Nat := 99
def ratio_made_c : MFn :=
  ⟨20, (.seq (.region [⟨(some 6), .alloc [.bool false, .nils, .nils], none⟩] (some [0, 1, 2, 6]))
  (.seq (.region [⟨(some 10), .mv (.t 0), none⟩,
    ⟨(some 11), .mv (.t 1), none⟩,
    ⟨(some 12), .mv (.t 2), none⟩,
    ⟨(some 13), .call 129 [(.t 10), (.t 11), (.t 12)], none⟩,
    ⟨(some 9), .mv (.t 13), none⟩,
    ⟨(some 14), .ext (.t 9) 0, none⟩,
    ⟨(some 15), .ext (.t 9) 1, none⟩,
    ⟨(some 7), .alloc [.bool false, .nils, .nils], none⟩,
    ⟨none, .st 3 (.t 7) (.t 14), none⟩,
    ⟨(some 8), .mv (.t 15), none⟩] (some [6, 7, 8]))
  (.seq (.seq (.region [⟨(some 16), .mv (.t 8), none⟩,
    ⟨(some 17), .bin .neq (.t 16) (.c (.int .i64 0)), none⟩] (some [6, 7, 17]))
  (.cond (.t 17)
    (.seq (.region [⟨(some 18), .call 41 [], none⟩,
      ⟨none, .st 3 (.t 6) (.t 18), none⟩] (some [6]))
    .ret)
    .skip))
  (.seq (.region [⟨(some 19), .ld (some 3) (.t 7), none⟩,
    ⟨none, .st 3 (.t 6) (.t 19), none⟩] (some [6]))
  .ret)))), [.cell 6 (some 3)]⟩
theorem ratio_made_ok : cFn Tryz.prog (kps [[0, 1, 2, 6], [6, 7, 8], [6, 7, 17], [6], [6]]) [] 99 = some ratio_made_c := by kernel_rfl

abbrev ratio_Neg : Nat := 109
def ratio_Neg_c : MFn :=
  ⟨11, (.seq (.region [⟨(some 1), .box (.t 0), none⟩,
    ⟨(some 2), .alloc [.bool false, .nils, .nils], none⟩] (some [1, 2]))
  (.seq (.region [⟨(some 3), .fA 0 (.t 1), none⟩,
    ⟨(some 4), .ld none (.t 3), none⟩,
    ⟨(some 5), .un .not (.t 4), none⟩,
    ⟨(some 6), .fA 1 (.t 1), none⟩,
    ⟨(some 7), .ld none (.t 6), none⟩,
    ⟨(some 8), .fA 2 (.t 1), none⟩,
    ⟨(some 9), .ld none (.t 8), none⟩,
    ⟨(some 10), .call 99 [(.t 5), (.t 7), (.t 9)], none⟩,
    ⟨none, .st 3 (.t 2) (.t 10), none⟩] (some [2]))
  .ret)), [.cell 2 (some 3)]⟩
theorem ratio_Neg_ok : cFn Tryz.prog (kps [[1, 2], [2]]) [] 109 = some ratio_Neg_c := by kernel_rfl

abbrev ref02_size : Nat := 113
def ref02_size_c : MFn :=
  ⟨15, (.seq (.region [⟨(some 2), .mv (.c (.nils)), none⟩,
    ⟨(some 3), .mv (.c (.bool false)), none⟩] (some [0]))
  (.seq (.seq (.region [⟨(some 4), .mv (.t 0), none⟩,
    ⟨(some 5), .bin .lss (.t 4) (.c (.int .i64 0)), none⟩] (some [0, 5]))
  (.cond (.t 5)
    (.seq (.region [⟨(some 6), .mv (.t 0), none⟩,
      ⟨(some 7), .bin .add (.t 6) (.c (.int .i64 1)), none⟩,
      ⟨(some 8), .un .neg (.t 7), none⟩,
      ⟨(some 9), .cvt .u64 (.t 8), none⟩,
      ⟨(some 10), .bin .add (.t 9) (.c (.int .u64 1)), none⟩,
      ⟨(some 11), .call 72 [(.t 10)], none⟩,
      ⟨(some 2), .mv (.t 11), none⟩,
      ⟨(some 3), .mv (.c (.bool true)), none⟩] (some [2, 3]))
    .ret)
    .skip))
  (.seq (.region [⟨(some 12), .mv (.t 0), none⟩,
    ⟨(some 13), .cvt .u64 (.t 12), none⟩,
    ⟨(some 14), .call 72 [(.t 13)], none⟩,
    ⟨(some 2), .mv (.t 14), none⟩,
    ⟨(some 3), .mv (.c (.bool false)), none⟩] (some [2, 3]))
  .ret))), [.t 2, .t 3]⟩
theorem ref02_size_ok : cFn Tryz.prog (kps [[0], [0, 5], [2, 3], [2, 3]]) [] 113 = some ref02_size_c := by kernel_rfl

abbrev ratio_Of : Nat := 129
def ratio_Of_c : MFn :=
  ⟨45, (.seq (.region [⟨(some 6), .alloc [.bool false, .nils, .nils], none⟩,
    ⟨(some 7), .mv (.c (.int .i64 0)), none⟩] (some [0, 1, 2, 6]))
  (.seq (.region [⟨(some 15), .mv (.t 1), none⟩,
    ⟨(some 16), .mv (.t 2), none⟩,
    ⟨(some 17), .call 95 [(.t 15), (.t 16)], none⟩,
    ⟨(some 8), .mv (.t 17), none⟩] (some [0, 1, 2, 6, 8]))
  (.seq (.seq (.region [⟨(some 18), .mv (.t 2), none⟩,
    ⟨(some 19), .call 96 [(.t 18), (.c (.nils))], none⟩,
    ⟨(some 20), .bin .eql (.t 19) (.c (.int .i64 0)), none⟩] (some [0, 1, 2, 6, 8, 20]))
  (.cond (.t 20)
    (.seq (.region [⟨(some 21), .build [.bool false, .nils, .nils] [], none⟩,
      ⟨none, .st 3 (.t 6) (.t 21), none⟩,
      ⟨(some 7), .mv (.c (.int .i64 31)), none⟩] (some [6, 7]))
    .ret)
    .skip))
  (.seq (.region [⟨(some 23), .mv (.t 1), none⟩,
    ⟨(some 24), .mv (.t 8), none⟩,
    ⟨(some 25), .call 127 [(.t 23), (.t 24)], none⟩,
    ⟨(some 22), .mv (.t 25), none⟩,
    ⟨(some 26), .ext (.t 22) 0, none⟩,
    ⟨(some 27), .ext (.t 22) 1, none⟩,
    ⟨(some 28), .ext (.t 22) 2, none⟩,
    ⟨(some 9), .mv (.t 26), none⟩,
    ⟨(some 10), .mv (.t 27), none⟩,
    ⟨(some 11), .mv (.t 28), none⟩] (some [0, 2, 6, 8, 9]))
  (.seq (.region [⟨(some 30), .mv (.t 2), none⟩,
    ⟨(some 31), .mv (.t 8), none⟩,
    ⟨(some 32), .call 127 [(.t 30), (.t 31)], none⟩,
    ⟨(some 29), .mv (.t 32), none⟩,
    ⟨(some 33), .ext (.t 29) 0, none⟩,
    ⟨(some 34), .ext (.t 29) 1, none⟩,
    ⟨(some 35), .ext (.t 29) 2, none⟩,
    ⟨(some 12), .mv (.t 33), none⟩,
    ⟨(some 13), .mv (.t 34), none⟩,
    ⟨(some 14), .mv (.t 35), none⟩] (some [0, 6, 9, 12]))
  (.seq (.region [⟨(some 36), .mv (.t 0), none⟩,
    ⟨(some 37), .mv (.t 36), none⟩,
    ⟨(some 38), .mv (.t 9), (some (37, true))⟩,
    ⟨(some 39), .lenS (.t 38), (some (37, true))⟩,
    ⟨(some 40), .bin .gtr (.t 39) (.c (.int .i64 0)), (some (37, true))⟩,
    ⟨(some 41), .pick (.t 37) (.t 40) (.c (.bool false)), none⟩,
    ⟨(some 42), .mv (.t 9), none⟩,
    ⟨(some 43), .mv (.t 12), none⟩,
    ⟨(some 44), .build [.bool false, .nils, .nils] [(0, 1, (.t 41)), (1, 1, (.t 42)), (2, 1, (.t 43))], none⟩,
    ⟨none, .st 3 (.t 6) (.t 44), none⟩,
    ⟨(some 7), .mv (.c (.int .i64 0)), none⟩] (some [6, 7]))
  .ret)))))), [.cell 6 (some 3), .t 7]⟩
theorem ratio_Of_ok : cFn Tryz.prog (kps [[0, 1, 2, 6], [0, 1, 2, 6, 8], [0, 1, 2, 6, 8, 20], [6, 7], [0, 2, 6, 8, 9], [0, 6, 9, 12], [6, 7]]) [] 129 = some ratio_Of_c := by kernel_rfl

end Go.Proofs.YtnneehniendnfaaGreat.F
