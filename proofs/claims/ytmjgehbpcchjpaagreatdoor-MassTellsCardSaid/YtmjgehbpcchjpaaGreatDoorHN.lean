/- Joined texts: CMs7, CMs8. -/
import Derived.Test.YtmjgehbpcchjpaaGreatDoorHM
import Derived.Test.YtmjgehbpcchjpaaGreatDoorGC
import Derived.Test.YtmjgehbpcchjpaaGreatDoorProg
import Derived.KernelRfl
/- Functions of the program, as the engine reads them; each is held against the translation. -/
namespace Go.Proofs.YtmjgehbpcchjpaaGreatDoor.F
open Go Go.Proofs Go.Proofs.YtmjgehbpcchjpaaGreatDoor.E Go.Proofs.YtmjgehbpcchjpaaGreatDoor.Q
abbrev weights_fine : Nat := 154
def weights_fine_c : MFn :=
  ⟨10,(.seq (r [o 1 (.box (.t 0)),o 2 (.mv (.c (.bool false)))] [1]) (.seq (r [o 3 (.ld (some 3) (.t 1)),o 4 (.call 188 [(.t 3)]),o 5 (.mv (.t 4)),y 6 5 (.fA 0 (.t 1)),y 7 5 (.ld none (.t 6)),
  y 8 5 (.un .not (.t 7)),o 9 (.pick (.t 5) (.t 8) (.c (.bool false))),o 2 (.mv (.t 9))] [2]) .ret)),[.t 2]⟩
theorem weights_fine_ok : cFn Tryz.prog (kps [[1],[2]]) [] 154 = some weights_fine_c := by kernel_rfl
abbrev ref04_fit : Nat := 102
def ref04_fit_c : MFn :=
  ⟨10,(.seq (r [o 1 (.box (.t 0)),o 2 (.mv (.c (.bool false)))] [1]) (.seq (r [o 3 (.ld (some 3) (.t 1)),o 4 (.call 100 [(.t 3)]),o 5 (.mv (.t 4)),y 6 5 (.ld (some 3) (.t 1)),y 7 5 (.call 88 [(.t 6)]),
  y 8 5 (.bin .geq (.t 7) (i 0)),o 9 (.pick (.t 5) (.t 8) (.c (.bool false))),o 2 (.mv (.t 9))] [2]) .ret)),[.t 2]⟩
theorem ref04_fit_ok : cFn Tryz.prog (kps [[1],[2]]) [] 102 = some ref04_fit_c := by kernel_rfl
abbrev weights_Right : Nat := 104
def weights_Right_c : MFn :=
  ⟨66,(.seq (r [o 1 (.box (.t 0)),o 2 (.mv (.c (.bool false)))] [1]) (.seq (.seq (r [o 7 (.fA 0 (.t 1)),o 8 (.ld none (.t 7)),o 9 (.lenS (.t 8)),o 10 (.mv (i 0))] [1,8,9,10])
  (.block 0 (.loop (.seq (r [o 11 (.bin .lss (.t 10) (.t 9))] [1,8,9,10,11]) (.seq (.cond (.t 11) .skip (.exit 0)) (.seq (.block 1 (.seq (r [o 12 (.mv (.t 10)),o 13 (.ixA 6 (.t 8) (.t 10)),
  o 14 (.ld (some 6) (.t 13)),o 4 (.alloc [.int .i64 0,.int .i64 0,.nils,.bool false,.nils,.nils]),o 3 (.mv (.t 12)),z (.st 6 (.t 4) (.t 14))] [1,3,4,8,9,10]) (.seq (r [o 15 (.fA 0 (.t 4)),
  o 16 (.ld (some 3) (.t 15)),o 17 (.callF 153 [(.t 16)]),o 18 (.un .not (.t 17)),o 19 (.mv (.t 18)),n 20 19 (.fA 3 (.t 4)),n 21 19 (.ld (some 3) (.t 20)),n 22 19 (.callF 154 [(.t 21)]),
  n 23 19 (.un .not (.t 22)),o 24 (.pick (.t 19) (.c (.bool true)) (.t 23)),o 25 (.mv (.t 24)),n 26 25 (.fA 3 (.t 4)),n 27 25 (.ld (some 3) (.t 26)),n 28 25 (.callF 36 [(.t 27)]),
  n 29 25 (.bin .eql (.t 28) (i 0)),o 30 (.pick (.t 25) (.c (.bool true)) (.t 29)),o 31 (.mv (.t 30)),n 32 31 (.mv (.t 3)),n 33 31 (.bin .gtr (.t 32) (i 0)),n 34 31 (.mv (.t 33)),
  y 35 34 (.fA 0 (.t 1)),y 36 34 (.ld none (.t 35)),y 37 34 (.mv (.t 3)),y 38 34 (.bin .sub (.t 37) (i 1)),y 39 34 (.ixA 6 (.t 36) (.t 38)),y 40 34 (.fA 0 (.t 39)),y 41 34 (.ld (some 3) (.t 40)),
  y 42 34 (.fA 0 (.t 4)),y 43 34 (.ld (some 3) (.t 42)),y 44 34 (.callF 155 [(.t 41),(.t 43)]),y 45 34 (.bin .geq (.t 44) (i 0)),n 46 31 (.pick (.t 34) (.t 45) (.c (.bool false))),o 47 (.pick (.t 31)
  (.c (.bool true)) (.t 46))] [1,8,9,10,47]) (.cond (.t 47) (.seq (r [o 2 (.mv (.c (.bool false)))] [2]) .ret) .skip)))) (r [o 48 (.bin .add (.t 10) (i 1)),o 10 (.mv (.t 48))] [1,8,9,10])))))))
  (.seq (.seq (r [o 49 (.fA 7 (.t 1)),o 50 (.ld (some 9) (.t 49)),o 51 (.mv (i 0))] [1,50,51]) (.block 2 (.loop (.seq (r [o 52 (.bin .lss (.t 51) (i 3))] [1,50,51,52]) (.seq (.cond (.t 52)
  .skip (.exit 2)) (.seq (.block 3 (.seq (r [o 53 (.ix 3 3 (some 3) (.t 50) (.t 51)),o 6 (.alloc [.bool false,.nils,.nils]),z (.st 3 (.t 6) (.t 53))] [1,6,50,51]) (.seq (r [o 54 (.ld (some 3) (.t 6)),
  o 55 (.call 154 [(.t 54)]),o 56 (.un .not (.t 55))] [1,50,51,56]) (.cond (.t 56) (.seq (r [o 2 (.mv (.c (.bool false)))] [2]) .ret) .skip)))) (r [o 57 (.bin .add (.t 51) (i 1)),
  o 51 (.mv (.t 57))] [1,50,51]))))))) (.seq (r [o 58 (.fA 1 (.t 1)),o 59 (.ld (some 3) (.t 58)),o 60 (.call 154 [(.t 59)]),o 61 (.mv (.t 60)),y 62 61 (.fA 4 (.t 1)),y 63 61 (.ld (some 3) (.t 62)),
  y 64 61 (.call 154 [(.t 63)]),o 65 (.pick (.t 61) (.t 64) (.c (.bool false))),o 2 (.mv (.t 65))] [2]) .ret)))),[.t 2]⟩
theorem weights_Right_ok : cFn Tryz.prog (kps [[1],[1,8,9,10],[1,8,9,10,11],[1,3,4,8,9,10],[1,8,9,10,47],[2],[1,8,9,10],[1,50,51],[1,50,51,52],[1,6,50,51],[1,50,51,56],[2],[1,50,51],[2]]) [] 104 = some weights_Right_c := by kernel_rfl
abbrev mass_Right : Nat := 37
def mass_Right_c : MFn :=
  ⟨5,(.seq (r [o 1 (.box (.t 0)),o 2 (.mv (.c (.bool false)))] [1]) (.seq (r [o 3 (.ld (some 16) (.t 1)),o 4 (.call 104 [(.t 3)]),o 2 (.mv (.t 4))] [2]) .ret)),[.t 2]⟩
theorem mass_Right_ok : cFn Tryz.prog (kps [[1],[2]]) [] 37 = some mass_Right_c := by kernel_rfl
abbrev ref04_Right : Nat := 35
def ref04_Right_c : MFn :=
  ⟨76,(.seq (r [o 1 (.box (.t 0)),o 2 (.mv (.c (.bool false)))] [1]) (.seq (.seq (r [o 3 (.mv (i 0))] [1,3]) (.block 0 (.loop (.seq (.seq (r [o 5 (.mv (.t 3)),o 6 (.fA 0 (.t 1)),o 7 (.ld none (.t 6)),
  o 8 (.lenS (.t 7)),o 9 (.bin .lss (.t 5) (.t 8))] [1,3,9]) (.cond (.t 9) .skip (.exit 0))) (.seq (.block 1 (.seq (r [o 12 (.fA 0 (.t 1)),o 13 (.ld none (.t 12)),o 14 (.mv (.t 3)),
  o 15 (.ixA 6 (.t 13) (.t 14)),o 16 (.ld (some 6) (.t 15)),o 4 (.alloc [.int .i64 0,.int .i64 0,.nils,.bool false,.nils,.nils]),z (.st 6 (.t 4) (.t 16))] [1,3,4]) (.seq (r [o 17 (.fA 0 (.t 4)),
  o 18 (.ld (some 3) (.t 17)),o 19 (.callF 99 [(.t 18)]),o 20 (.un .not (.t 19)),o 21 (.mv (.t 20)),n 22 21 (.fA 3 (.t 4)),n 23 21 (.ld (some 3) (.t 22)),n 24 21 (.callF 100 [(.t 23)]),
  n 25 21 (.un .not (.t 24)),o 26 (.pick (.t 21) (.c (.bool true)) (.t 25)),o 27 (.mv (.t 26)),n 28 27 (.fA 3 (.t 4)),n 29 27 (.ld (some 3) (.t 28)),n 30 27 (.callF 88 [(.t 29)]),
  n 31 27 (.bin .leq (.t 30) (i 0)),o 32 (.pick (.t 27) (.c (.bool true)) (.t 31)),o 33 (.mv (.t 32)),n 34 33 (.mv (.t 3)),n 35 33 (.bin .gtr (.t 34) (i 0)),n 36 33 (.mv (.t 35)),
  y 37 36 (.fA 0 (.t 1)),y 38 36 (.ld none (.t 37)),y 39 36 (.mv (.t 3)),y 40 36 (.bin .sub (.t 39) (i 1)),y 41 36 (.ixA 6 (.t 38) (.t 40)),y 42 36 (.fA 0 (.t 41)),y 43 36 (.ld (some 3) (.t 42)),
  y 44 36 (.fA 0 (.t 4)),y 45 36 (.ld (some 3) (.t 44)),y 46 36 (.callF 101 [(.t 43),(.t 45)]),y 47 36 (.bin .geq (.t 46) (i 0)),n 48 33 (.pick (.t 36) (.t 47) (.c (.bool false))),o 49 (.pick (.t 33)
  (.c (.bool true)) (.t 48))] [1,3,49]) (.cond (.t 49) (.seq (r [o 2 (.mv (.c (.bool false)))] [2]) .ret) .skip)))) (r [o 10 (.mv (.t 3)),o 11 (.bin .add (.t 10) (i 1)),o 3 (.mv (.t 11))] [1,3]))))))
  (.seq (r [o 50 (.fA 1 (.t 1)),o 51 (.ld (some 3) (.t 50)),o 52 (.call 102 [(.t 51)]),o 53 (.mv (.t 52)),y 54 53 (.fA 4 (.t 1)),y 55 53 (.ld (some 3) (.t 54)),y 56 53 (.call 102 [(.t 55)]),
  o 57 (.pick (.t 53) (.t 56) (.c (.bool false))),o 58 (.mv (.t 57)),y 59 58 (.fA 7 (.t 1)),y 60 58 (.ixArr 3 3 (.t 59) (i 0)),y 61 58 (.ld (some 3) (.t 60)),y 62 58 (.call 102 [(.t 61)]),
  o 63 (.pick (.t 58) (.t 62) (.c (.bool false))),o 64 (.mv (.t 63)),y 65 64 (.fA 7 (.t 1)),y 66 64 (.ixArr 3 3 (.t 65) (i 1)),y 67 64 (.ld (some 3) (.t 66)),y 68 64 (.call 102 [(.t 67)]),
  o 69 (.pick (.t 64) (.t 68) (.c (.bool false))),o 70 (.mv (.t 69)),y 71 70 (.fA 7 (.t 1)),y 72 70 (.ixArr 3 3 (.t 71) (i 2)),y 73 70 (.ld (some 3) (.t 72)),y 74 70 (.call 102 [(.t 73)]),
  o 75 (.pick (.t 70) (.t 74) (.c (.bool false))),o 2 (.mv (.t 75))] [2]) .ret))),[.t 2]⟩
theorem ref04_Right_ok : cFn Tryz.prog (kps [[1],[1,3],[1,3,9],[1,3],[1,3,4],[1,3,49],[2],[2]]) [] 35 = some ref04_Right_c := by kernel_rfl
abbrev ref02_Sum : Nat := 117
def ref02_Sum_c : MFn :=
  ⟨19,(.seq (r [o 2 (.alloc [.bool false,.nils,.nils])] [0,2]) (.seq (r [o 5 (.call 113 []),o 3 (.alloc [.bool false,.nils,.nils]),z (.st 3 (.t 3) (.t 5))] [0,2,3]) (.seq (.seq (r [o 4 (.mv (i 0))] [0,
  2,3,4]) (.block 0 (.loop (.seq (.seq (r [o 6 (.mv (.t 4)),o 7 (.mv (.t 0)),o 8 (.lenS (.t 7)),o 9 (.bin .lss (.t 6) (.t 8))] [0,2,3,4,9]) (.cond (.t 9) .skip (.exit 0)))
  (.seq (.block 1 (r [o 12 (.ld (some 3) (.t 3)),o 13 (.mv (.t 0)),o 14 (.mv (.t 4)),o 15 (.ixA 3 (.t 13) (.t 14)),o 16 (.ld (some 3) (.t 15)),o 17 (.callF 81 [(.t 12),(.t 16)]),z (.st 3 (.t 3)
  (.t 17))] [0,2,3,4])) (r [o 10 (.mv (.t 4)),o 11 (.bin .add (.t 10) (i 1)),o 4 (.mv (.t 11))] [0,2,3,4])))))) (.seq (r [o 18 (.ld (some 3) (.t 3)),z (.st 3 (.t 2) (.t 18))] [2]) .ret)))),
  [.cell 2 (some 3)]⟩
theorem ref02_Sum_ok : cFn Tryz.prog (kps [[0,2],[0,2,3],[0,2,3,4],[0,2,3,4,9],[0,2,3,4],[0,2,3,4],[2]]) [] 117 = some ref02_Sum_c := by kernel_rfl
abbrev ref04_Values : Nat := 53
def ref04_Values_c : MFn :=
  ⟨22,(.seq (r [o 1 (.box (.t 0)),o 2 (.alloc [.bool false,.nils,.nils])] [1,2]) (.seq (r [o 5 (.call 113 []),o 3 (.alloc [.bool false,.nils,.nils]),z (.st 3 (.t 3) (.t 5))] [1,2,3])
  (.seq (.seq (r [o 4 (.mv (i 0))] [1,2,3,4]) (.block 0 (.loop (.seq (.seq (r [o 6 (.mv (.t 4)),o 7 (.fA 0 (.t 1)),o 8 (.ld none (.t 7)),o 9 (.lenS (.t 8)),o 10 (.bin .lss (.t 6) (.t 9))] [1,2,3,4,
  10]) (.cond (.t 10) .skip (.exit 0))) (.seq (.block 1 (r [o 13 (.ld (some 3) (.t 3)),o 14 (.fA 0 (.t 1)),o 15 (.ld none (.t 14)),o 16 (.mv (.t 4)),o 17 (.ixA 6 (.t 15) (.t 16)),o 18 (.fA 3 (.t 17)),
  o 19 (.ld (some 3) (.t 18)),o 20 (.callF 81 [(.t 13),(.t 19)]),z (.st 3 (.t 3) (.t 20))] [1,2,3,4])) (r [o 11 (.mv (.t 4)),o 12 (.bin .add (.t 11) (i 1)),o 4 (.mv (.t 12))] [1,2,3,4]))))))
  (.seq (r [o 21 (.ld (some 3) (.t 3)),z (.st 3 (.t 2) (.t 21))] [2]) .ret)))),[.cell 2 (some 3)]⟩
theorem ref04_Values_ok : cFn Tryz.prog (kps [[1,2],[1,2,3],[1,2,3,4],[1,2,3,4,10],[1,2,3,4],[1,2,3,4],[2]]) [] 53 = some ref04_Values_c := by kernel_rfl
abbrev ref04_Weight : Nat := 55
def ref04_Weight_c : MFn :=
  ⟨32,(.seq (r [o 2 (.box (.t 0)),o 3 (.box (.t 1)),o 4 (.alloc [.bool false,.nils,.nils])] [2,3,4]) (.seq (r [o 7 (.call 113 []),o 5 (.alloc [.bool false,.nils,.nils]),z (.st 3 (.t 5) (.t 7))] [2,3,4,
  5]) (.seq (.seq (r [o 6 (.mv (i 0))] [2,3,4,5,6]) (.block 0 (.loop (.seq (.seq (r [o 8 (.mv (.t 6)),o 9 (.fA 0 (.t 2)),o 10 (.ld none (.t 9)),o 11 (.lenS (.t 10)),o 12 (.bin .lss (.t 8)
  (.t 11))] [2,3,4,5,6,12]) (.cond (.t 12) .skip (.exit 0))) (.seq (.block 1 (.seq (r [o 15 (.fA 0 (.t 2)),o 16 (.ld none (.t 15)),o 17 (.mv (.t 6)),o 18 (.ixA 6 (.t 16) (.t 17)),o 19 (.fA 0 (.t 18)),
  o 20 (.ld (some 3) (.t 19)),o 21 (.ld (some 3) (.t 3)),o 22 (.callF 95 [(.t 20),(.t 21)])] [2,3,4,5,6,22]) (.cond (.t 22) (r [o 23 (.ld (some 3) (.t 5)),o 24 (.fA 0 (.t 2)),o 25 (.ld none (.t 24)),
  o 26 (.mv (.t 6)),o 27 (.ixA 6 (.t 25) (.t 26)),o 28 (.fA 3 (.t 27)),o 29 (.ld (some 3) (.t 28)),o 30 (.callF 81 [(.t 23),(.t 29)]),z (.st 3 (.t 5) (.t 30))] [2,3,4,5,6]) .skip)))
  (r [o 13 (.mv (.t 6)),o 14 (.bin .add (.t 13) (i 1)),o 6 (.mv (.t 14))] [2,3,4,5,6])))))) (.seq (r [o 31 (.ld (some 3) (.t 5)),z (.st 3 (.t 4) (.t 31))] [4]) .ret)))),[.cell 4 (some 3)]⟩
theorem ref04_Weight_ok : cFn Tryz.prog (kps [[2,3,4],[2,3,4,5],[2,3,4,5,6],[2,3,4,5,6,12],[2,3,4,5,6],[2,3,4,5,6,22],[2,3,4,5,6],[4]]) [] 55 = some ref04_Weight_c := by kernel_rfl
abbrev ref04_Total : Nat := 52
def ref04_Total_c : MFn :=
  ⟨20,(.seq (r [o 1 (.box (.t 0)),o 2 (.alloc [.bool false,.nils,.nils])] [1,2]) (.seq (r [o 3 (.ld (some 16) (.t 1)),o 4 (.callF 53 [(.t 3)]),o 5 (.fA 1 (.t 1)),o 6 (.ld (some 3) (.t 5)),
  o 7 (.fA 4 (.t 1)),o 8 (.ld (some 3) (.t 7)),o 9 (.fA 7 (.t 1)),o 10 (.ixArr 3 3 (.t 9) (i 0)),o 11 (.ld (some 3) (.t 10)),o 12 (.fA 7 (.t 1)),o 13 (.ixArr 3 3 (.t 12) (i 1)),o 14 (.ld (some 3)
  (.t 13)),o 15 (.fA 7 (.t 1)),o 16 (.ixArr 3 3 (.t 15) (i 2)),o 17 (.ld (some 3) (.t 16)),o 18 (.buildSl 3 6 [.bool false,.nils,.nils] [(0,(.t 4)),(1,(.t 6)),(2,(.t 8)),(3,(.t 11)),(4,(.t 14)),(5,
  (.t 17))]),o 19 (.callF 117 [(.t 18)]),z (.st 3 (.t 2) (.t 19))] [2]) .ret)),[.cell 2 (some 3)]⟩
theorem ref04_Total_ok : cFn Tryz.prog (kps [[1,2],[2]]) [] 52 = some ref04_Total_c := by kernel_rfl
end Go.Proofs.YtmjgehbpcchjpaaGreatDoor.F

namespace Go.Proofs.YtmjgehbpcchjpaaGreatDoor
open Go Go.Proofs Go.Proofs.YtmjgehbpcchjpaaGreatDoor.E
set_option linter.unusedSimpArgs false
set_option linter.unusedVariables false
def fineR (x : Raw) : Bool := x.right && !x.neg
theorem fine_fit {x : Raw} {k : Nat} (hx : x.Ok k) (h : x.right = true) : decide (0 ≤ sgnR x.q) = !x.neg := by
  have e := (Raw.right_iff hx).1 h
  have e1 : x.neg = decide (x.q < 0) := by
    have : x.neg = (rawOf x.q).neg := congrArg Raw.neg e
    rw [this]; rfl
  rw [e1]
  unfold sgnR cmpR
  by_cases h1 : x.q < 0
  · simp [h1]
  · by_cases h2 : 0 < x.q <;> simp [h1, h2]
theorem fine_pos {x : Raw} {k : Nat} (hx : x.Ok k) (h : x.right = true) : (0 < x.q) ↔ (x.neg = false ∧ sgnR x.q ≠ 0) := by
  have := fine_fit hx h
  have e2 : sgnR x.q ≤ 0 ↔ ¬ 0 < x.q := sgnR_pos_iff
  constructor
  · intro hp
    have h1 : ¬ sgnR x.q ≤ 0 := fun h => e2.1 h hp
    have h2 : decide (0 ≤ sgnR x.q) = true := by simp; omega
    rw [h2] at this
    exact ⟨by simpa using this.symm, by omega⟩
  · rintro ⟨hn, h0⟩
    rw [hn] at this
    simp at this
    have h1 : ¬ sgnR x.q ≤ 0 := by omega
    rw [e2] at h1
    exact Decidable.not_not.1 h1
theorem weights_fine {x : Raw} (hx : x.Ok (2 ^ 33)) : CallD Tryz.prog F.weights_fine [x.v] (· = .bool (fineR x)) := by
  refine callD_by F.weights_fine_ok ?_
  unfold F.weights_fine_c fineR
  simp [setOb, List.filter_cons, Raw.v]
  refine callK_of (ratio_Right hx) (by simp [Raw.v]) ?_
  cases h : x.right <;> simp [setOb, List.filter_cons]
theorem ref04_fit {x : Raw} (hx : x.Ok (2 ^ 33)) : CallD Tryz.prog F.ref04_fit [x.v] (· = .bool (fineR x)) := by
  refine callD_by F.ref04_fit_ok ?_
  unfold F.ref04_fit_c fineR
  simp [setOb, List.filter_cons, Raw.v]
  refine callK_of (ref02_Right hx) (by simp [Raw.v]) ?_
  cases h : x.right with
  | false => simp [setOb, List.filter_cons]
  | true =>
    have := fine_fit hx h
    simp [setOb, List.filter_cons]
    refine callK_of (ref02_Sign hx) (by simp [Raw.v]) ?_
    rw [← this]
    simp [setOb, List.filter_cons]
def listOK (l : List Part) : Bool := (List.range l.length).all (partAt l)
def rightM (m : Ms) : Bool := listOK m.parts && (fineR m.f0 && fineR m.f1 && fineR m.f2) && (fineR m.rf && fineR m.lo)
set_option maxHeartbeats 8000000 in
theorem weights_Right {m : Ms} (hm : m.Ok (2 ^ 33)) (hl : m.parts.length ≤ 1000000) : CallD Tryz.prog F.weights_Right [m.v] (· = .bool (rightM m)) := by
  refine callD_by F.weights_Right_ok ?_
  unfold F.weights_Right_c rightM listOK
  simp [setOb, List.filter_cons, msC, tailC]
  have ho := hm.parts
  generalize hL : m.parts = l at hl ho ⊢
  refine wm_loop (fun g : Nat => ((((Sl.empty.set 10 (.int .i64 g)).set 9 (.int .i64 l.length)).set 8 (pl l)).set 1 (.ptr 0 0 0), [(0, ⟨.own, 16, [pl l :: tailC m.rf m.lo m.f0 m.f1 m.f2]⟩)]))
    (fun g => g ≤ l.length ∧ (∀ j, j < g → partAt l j = true)) (fun g => l.length - g) 0 ⟨by omega, fun j h => by omega⟩ ?_ ?_
  · refine weak_obs ?_ (by simp [tailC]) (by repeat (first | exact sin_empty | refine sin_set (by simp) ?_)) (by simp [tailC])
    repeat (first | exact sub_empty | refine sub_set (by simp) ?_)
  rintro i ⟨hi, hb⟩
  by_cases h1 : i < l.length
  · have okp := ho l[i] (List.getElem_mem h1)
    have hpa := partAt_eq h1
    have bad : partAt l i = false → (List.range l.length).all (partAt l) = false := fun h => by
      rw [List.all_eq_false]; exact ⟨i, by simpa using h1, by simp [h]⟩
    simp [h1, setOb, List.filter_cons]
    refine callFK_of (value_Right okp.1) (by simp [toD_cells]) ?_
    have next : partAt l i = true → i + 1 ≤ l.length ∧ (∀ j, j < i + 1 → partAt l j = true) := by
      intro h
      refine ⟨h1, fun j hj => ?_⟩
      by_cases e : j = i
      · rw [e]; exact h
      · exact hb j (by omega)
    cases hv : rightT l[i].v with
    | false =>
      have := bad (by rw [hpa, hv]; rfl)
      simp [this]
    | true =>
    simp
    refine callFK_of (weights_fine okp.2) (by simp [toD_rawc, raw_v]) ?_
    unfold fineR
    cases hr : l[i].w.right with
    | false =>
      have := bad (by rw [hpa, hv, hr]; rfl)
      simp [this]
    | true =>
    have fp := fine_pos okp.2 hr
    cases hn : l[i].w.neg with
    | true =>
      have hq : ¬ 0 < l[i].w.q := fun h => by rw [fp.1 h |>.1] at hn; simp at hn
      have := bad (by rw [hpa]; simp [hq])
      simp [this]
    | false =>
    simp
    refine callFK_of (ratio_Sign okp.2) (by simp [toD_rawc, raw_v]) ?_
    by_cases hz : sgnR l[i].w.q = 0
    · have hq : ¬ 0 < l[i].w.q := fun h => (fp.1 h).2 hz
      have := bad (by rw [hpa]; simp [hq])
      simp [this, hz]
    have hq : 0 < l[i].w.q := fp.2 ⟨hn, hz⟩
    by_cases h0 : i = 0
    · subst h0
      simp [hz]
      rw [wrap64 (by omega) (by omega)]
      refine ⟨1, next (by rw [hpa]; simp [hv, hr, hq]), by dsimp only; omega, ?_⟩
      refine weak_obs ?_ (by simp [tailC]) (by repeat (first | exact sin_empty | refine sin_set (by simp) ?_)) (by simp [tailC])
      repeat (first | exact sub_empty | refine sub_set (by simp) ?_)
    · have h0' : (0 : Int) < i := by omega
      have h0'' : 0 < i := by omega
      have hi1 : i - 1 < l.length := by omega
      have okq := ho (l[i - 1]'hi1) (List.getElem_mem hi1)
      have e1 : ((i : Int) - 1).toNat = i - 1 := by omega
      simp [hz, h0, h0', h0'']
      repeat simp (disch := omega) [wrap64, if_pos, e1]
      refine callFK_of (value_Compare okq.1 okp.1) (by simp [toD_cells]) ?_
      by_cases hc : cmpT (l[i - 1]'hi1).v l[i].v < 0
      · have hc' : ¬ 0 ≤ cmpT (l[i - 1]'hi1).v l[i].v := by omega
        simp [hc, hc']
        rw [wrap64 (by omega) (by omega)]
        refine ⟨i + 1, next (by rw [hpa]; simp [hv, hr, hq, h0'', hc]), by dsimp only; omega, ?_⟩
        refine weak_obs ?_ (by simp [tailC]) (by repeat (first | exact sin_empty | refine sin_set (by simp) ?_)) (by simp [tailC])
        repeat (first | exact sub_empty | refine sub_set (by simp) ?_)
      · have hc' : 0 ≤ cmpT (l[i - 1]'hi1).v l[i].v := by omega
        have := bad (by rw [hpa]; simp [h0, h0'', hc])
        simp [this, hc']
  · have hil : i = l.length := by omega
    subst hil
    have hall : (List.range l.length).all (partAt l) = true := by
      rw [List.all_eq_true]; intro j hj; exact hb j (by simpa using hj)
    simp [h1, tailC, hall]
    refine wm_loop (fun g : Nat => (((Sl.empty.set 51 (.int .i64 g)).set 50 (.agg [V.bool m.f0.neg, nat m.f0.num, nat m.f0.den, V.bool m.f1.neg, nat m.f1.num, nat m.f1.den, V.bool m.f2.neg, nat m.f2.num, nat m.f2.den])).set 1 (.ptr 0 0 0), [(0, ⟨.own, 16, [pl l :: tailC m.rf m.lo m.f0 m.f1 m.f2]⟩)]))
      (fun g => g ≤ 3 ∧ (0 < g → fineR m.f0 = true) ∧ (1 < g → fineR m.f1 = true) ∧ (2 < g → fineR m.f2 = true)) (fun g => 3 - g) 0 ⟨by omega, fun h => by omega, fun h => by omega, fun h => by omega⟩ ?_ ?_
    · refine weak_obs ?_ (by simp [tailC]) (by repeat (first | exact sin_empty | refine sin_set (by simp) ?_)) (by simp [tailC])
      repeat (first | exact sub_empty | refine sub_set (by simp) ?_)
    rintro g ⟨hg, g0, g1, g2⟩
    by_cases c : g < 3
    · have hg3 : g = 0 ∨ g = 1 ∨ g = 2 := by omega
      simp only [tailC]
      rcases hg3 with e | e | e
      · subst e
        simp [setOb, List.filter_cons]
        refine callK_of (weights_fine hm.f0) (by simp [Raw.v]) ?_
        cases hf : fineR m.f0 with
        | false => simp
        | true =>
        simp
        rw [wrap64 (by omega) (by omega)]
        refine ⟨1, ⟨by omega, fun h => by omega, fun h => by omega⟩, by dsimp only; omega, ?_⟩
        refine weak_obs ?_ (by simp) (by repeat (first | exact sin_empty | refine sin_set (by simp) ?_)) (by simp)
        repeat (first | exact sub_empty | refine sub_set (by simp) ?_)
      · subst e
        simp [setOb, List.filter_cons]
        refine callK_of (weights_fine hm.f1) (by simp [Raw.v]) ?_
        cases hf : fineR m.f1 with
        | false => simp
        | true =>
        simp
        rw [wrap64 (by omega) (by omega)]
        refine ⟨2, ⟨by omega, fun _ => g0 (by omega), fun h => by omega⟩, by dsimp only; omega, ?_⟩
        refine weak_obs ?_ (by simp) (by repeat (first | exact sin_empty | refine sin_set (by simp) ?_)) (by simp)
        repeat (first | exact sub_empty | refine sub_set (by simp) ?_)
      · subst e
        simp [setOb, List.filter_cons]
        refine callK_of (weights_fine hm.f2) (by simp [Raw.v]) ?_
        cases hf : fineR m.f2 with
        | false => simp
        | true =>
        simp
        rw [wrap64 (by omega) (by omega)]
        refine ⟨3, ⟨by omega, fun _ => g0 (by omega), fun h => g1 (by omega)⟩, by dsimp only; omega, ?_⟩
        refine weak_obs ?_ (by simp) (by repeat (first | exact sin_empty | refine sin_set (by simp) ?_)) (by simp)
        repeat (first | exact sub_empty | refine sub_set (by simp) ?_)
    have hg3 : g = 3 := by omega
    subst hg3
    have a0 := g0 (by omega)
    have a1 := g1 (by omega)
    have a2 := g2 (by omega)
    simp [tailC, a0, a1, a2]
    refine callK_of (weights_fine hm.rf) (by simp [Raw.v]) ?_
    cases hf : fineR m.rf with
    | false => simp
    | true =>
    simp
    refine callK_of (weights_fine hm.lo) (by simp [Raw.v]) ?_
    simp
theorem mass_Right {m : Ms} (hm : m.Ok (2 ^ 33)) (hl : m.parts.length ≤ 1000000) : CallD Tryz.prog F.mass_Right [m.v] (· = .bool (rightM m)) := by
  refine callD_by F.mass_Right_ok ?_
  unfold F.mass_Right_c
  simp [setOb, List.filter_cons, msC, tailC]
  refine callK_of (weights_Right hm hl) (by simp [msC, tailC]) ?_
  simp [setOb, List.filter_cons]
set_option maxHeartbeats 8000000 in
theorem ref04_Right {m : Ms} (hm : m.Ok (2 ^ 33)) (hl : m.parts.length ≤ 1000000) : CallD Tryz.prog F.ref04_Right [m.v] (· = .bool (rightM m)) := by
  refine callD_by F.ref04_Right_ok ?_
  unfold F.ref04_Right_c rightM listOK
  simp [setOb, List.filter_cons, msC, tailC]
  have ho := hm.parts
  generalize hL : m.parts = l at hl ho ⊢
  refine wm_loop (fun g : Nat => ((Sl.empty.set 3 (.int .i64 g)).set 1 (.ptr 0 0 0), [(0, ⟨.own, 16, [pl l :: tailC m.rf m.lo m.f0 m.f1 m.f2]⟩)]))
    (fun g => g ≤ l.length ∧ (∀ j, j < g → partAt l j = true)) (fun g => l.length - g) 0 ⟨by omega, fun j h => by omega⟩ ?_ ?_
  · refine weak_obs ?_ (by simp [tailC]) (by repeat (first | exact sin_empty | refine sin_set (by simp) ?_)) (by simp [tailC])
    repeat (first | exact sub_empty | refine sub_set (by simp) ?_)
  rintro i ⟨hi, hb⟩
  by_cases h1 : i < l.length
  · have okp := ho l[i] (List.getElem_mem h1)
    have hpa := partAt_eq h1
    have bad : partAt l i = false → (List.range l.length).all (partAt l) = false := fun h => by
      rw [List.all_eq_false]; exact ⟨i, by simpa using h1, by simp [h]⟩
    simp [h1, tailC, setOb, List.filter_cons]
    refine callFK_of (ref03_Right okp.1) (by simp [toD_cells]) ?_
    have next : partAt l i = true → i + 1 ≤ l.length ∧ (∀ j, j < i + 1 → partAt l j = true) := by
      intro h
      refine ⟨h1, fun j hj => ?_⟩
      by_cases e : j = i
      · rw [e]; exact h
      · exact hb j (by omega)
    cases hv : rightT l[i].v with
    | false =>
      have := bad (by rw [hpa, hv]; rfl)
      simp [this]
    | true =>
    simp
    refine callFK_of (ref02_Right okp.2) (by simp [toD_rawc, raw_v]) ?_
    cases hr : l[i].w.right with
    | false =>
      have := bad (by rw [hpa, hv, hr]; rfl)
      simp [this]
    | true =>
    simp
    refine callFK_of (ref02_Sign okp.2) (by simp [toD_rawc, raw_v]) ?_
    by_cases hq : ¬ 0 < l[i].w.q
    · have := bad (by rw [hpa]; simp [hq])
      have h2 := sgnR_pos_iff.2 hq
      simp [this, h2]
    have hq : 0 < l[i].w.q := by simpa using hq
    have h2 : ¬ sgnR l[i].w.q ≤ 0 := fun h => sgnR_pos_iff.1 h hq
    by_cases h0 : i = 0
    · subst h0
      simp [h2]
      rw [wrap64 (by omega) (by omega)]
      refine ⟨1, next (by rw [hpa]; simp [hv, hr, hq]), by dsimp only; omega, ?_⟩
      refine weak_obs ?_ (by simp [tailC]) (by repeat (first | exact sin_empty | refine sin_set (by simp) ?_)) (by simp [tailC])
      repeat (first | exact sub_empty | refine sub_set (by simp) ?_)
    · have h0' : (0 : Int) < i := by omega
      have h0'' : 0 < i := by omega
      have hi1 : i - 1 < l.length := by omega
      have okq := ho (l[i - 1]'hi1) (List.getElem_mem hi1)
      have e1 : ((i : Int) - 1).toNat = i - 1 := by omega
      simp [h2, h0, h0', h0'']
      repeat simp (disch := omega) [wrap64, if_pos, e1]
      refine callFK_of (ref03_Compare okq.1 okp.1) (by simp [toD_cells]) ?_
      by_cases hc : cmpT (l[i - 1]'hi1).v l[i].v < 0
      · have hc' : ¬ 0 ≤ cmpT (l[i - 1]'hi1).v l[i].v := by omega
        simp [hc, hc']
        rw [wrap64 (by omega) (by omega)]
        refine ⟨i + 1, next (by rw [hpa]; simp [hv, hr, hq, h0'', hc]), by dsimp only; omega, ?_⟩
        refine weak_obs ?_ (by simp [tailC]) (by repeat (first | exact sin_empty | refine sin_set (by simp) ?_)) (by simp [tailC])
        repeat (first | exact sub_empty | refine sub_set (by simp) ?_)
      · have hc' : 0 ≤ cmpT (l[i - 1]'hi1).v l[i].v := by omega
        have := bad (by rw [hpa]; simp [h0, h0'', hc])
        simp [this, hc']
  · have hil : i = l.length := by omega
    subst hil
    have hall : (List.range l.length).all (partAt l) = true := by
      rw [List.all_eq_true]; intro j hj; exact hb j (by simpa using hj)
    simp [h1, tailC, hall]
    refine callK_of (ref04_fit hm.rf) (by simp [Raw.v]) ?_
    cases a1 : fineR m.rf with
    | false => simp
    | true =>
    simp
    refine callK_of (ref04_fit hm.lo) (by simp [Raw.v]) ?_
    cases a2 : fineR m.lo with
    | false => simp
    | true =>
    simp
    refine callK_of (ref04_fit hm.f0) (by simp [Raw.v]) ?_
    cases a3 : fineR m.f0 with
    | false => simp
    | true =>
    simp
    refine callK_of (ref04_fit hm.f1) (by simp [Raw.v]) ?_
    cases a4 : fineR m.f1 with
    | false => simp
    | true =>
    simp
    refine callK_of (ref04_fit hm.f2) (by simp [Raw.v]) ?_
    simp
end Go.Proofs.YtmjgehbpcchjpaaGreatDoor

namespace Go.Proofs.YtmjgehbpcchjpaaGreatDoor
open Go Go.Proofs Go.Proofs.YtmjgehbpcchjpaaGreatDoor.E
set_option linter.unusedSimpArgs false
set_option linter.unusedVariables false
theorem ref02_Sum {l : List Raw} {K : Nat} (hK : 1 ≤ K) (hK31 : K ≤ 2 ^ 31) (ho : ∀ x ∈ l, x.Ok K) (hl : l.length ≤ 1000000) (hb : 1 + l.length * (K + 1) ≤ 2 ^ 31) : CallD Tryz.prog F.ref02_Sum [.dat (l.map Raw.c)] (· = ratV (rsum l)) := by
  refine callD_by F.ref02_Sum_ok ?_
  unfold F.ref02_Sum_c
  simp [setOb, List.filter_cons, raw_v]
  refine callK_of ref02_Zero (by simp) ?_
  simp [setOb, List.filter_cons, ratV, raw_v]
  refine wm_loop (fun g : Nat => ((((Sl.empty.set 4 (.int .i64 g)).set 3 (.ptr 1 0 0)).set 2 (.ptr 0 0 0)).set 0 (.dat (l.map Raw.c)),
      [(0, ⟨.own, 3, [[.bool false, .nils, .nils]]⟩), (1, ⟨.own, 3, [(rawOf (rsum (l.take g))).c]⟩)]))
    (fun g => g ≤ l.length) (fun g => l.length - g) 0 (by omega) ?_ ?_
  · refine weak_obs ?_ (by simp [rsum, sumBy]) (by repeat (first | exact sin_empty | refine sin_set (by simp) ?_)) ?_
    · repeat (first | exact sub_empty | refine sub_set (by simp) ?_)
    · simp; exact fun y hy => rawc_within _ y hy
  intro i hi
  by_cases h1 : i < l.length
  · have okA := ho _ (List.getElem_mem h1)
    have hst : rsum (l.take (i + 1)) = rsum (l.take i) + l[i].q := sumBy_take (f := Raw.q) h1
    have hacc : Fits (rsum (l.take i)) (2 ^ 31) := (sumBy_fits (k := K) _ fun x hx => Raw.fits (ho x (List.mem_of_mem_take hx)) hK).mono (by
      have := mul_len (k := K + 1) (show (l.take i).length ≤ l.length by rw [List.length_take]; omega)
      omega)
    have tk : List.take 3 l[i].c = l[i].c := by simp [Raw.c]
    simp [h1, tk, setOb, List.filter_cons]
    refine callFK_of (ref02_Add (rawOf_ok hacc) (rok okA hK31)) (by simp [toD_rawc, raw_v]) ?_
    rw [rawOf_q, ← hst]
    simp [ratV, raw_v, setOb, List.filter_cons]
    rw [wrap64 (by omega) (by omega)]
    refine ⟨i + 1, h1, by dsimp only; omega, ?_⟩
    refine weak_obs ?_ (by simp) (by repeat (first | exact sin_empty | refine sin_set (by simp) ?_)) ?_
    · repeat (first | exact sub_empty | refine sub_set (by simp) ?_)
    · simp; exact fun y hy => rawc_within _ y hy
  · have hil : i = l.length := by omega
    subst hil
    simp [h1, setOb, List.filter_cons, toD_rawc, ratV, raw_v]
theorem ref04_Values {m : Ms} {K : Nat} (hK : 1 ≤ K) (hK31 : K ≤ 2 ^ 31) (hm : m.Ok K) (hl : m.parts.length ≤ 1000000) (hb : 1 + m.parts.length * (K + 1) ≤ 2 ^ 31) : CallD Tryz.prog F.ref04_Values [m.v] (· = ratV (psum m.parts)) := by
  refine callD_by F.ref04_Values_ok ?_
  unfold F.ref04_Values_c
  simp [setOb, List.filter_cons, raw_v, msC, tailC]
  refine callK_of ref02_Zero (by simp) ?_
  simp [setOb, List.filter_cons, ratV, raw_v]
  generalize hL : m.parts = l at hl hb ⊢
  refine wm_loop (fun g : Nat => ((((Sl.empty.set 4 (.int .i64 g)).set 3 (.ptr 2 0 0)).set 2 (.ptr 1 0 0)).set 1 (.ptr 0 0 0),
      [(0, ⟨.own, 16, [pl l :: tailC m.rf m.lo m.f0 m.f1 m.f2]⟩), (1, ⟨.own, 3, [[.bool false, .nils, .nils]]⟩), (2, ⟨.own, 3, [(rawOf (psum (l.take g))).c]⟩)]))
    (fun g => g ≤ l.length) (fun g => l.length - g) 0 (by omega) ?_ ?_
  · refine weak_obs ?_ (by simp [psum, sumBy, tailC]) (by repeat (first | exact sin_empty | refine sin_set (by simp) ?_)) ?_
    · repeat (first | exact sub_empty | refine sub_set (by simp) ?_)
    · simp [tailC]; exact fun y hy => rawc_within _ y hy
  intro i hi
  by_cases h1 : i < l.length
  · have okA := (hm.parts _ (by rw [hL]; exact List.getElem_mem h1)).2
    have hst : psum (l.take (i + 1)) = psum (l.take i) + l[i].w.q := sumBy_take (f := fun p : Part => p.w.q) h1
    have hacc : Fits (psum (l.take i)) (2 ^ 31) := (sumBy_fits (k := K) _ fun x hx => Raw.fits (hm.parts x (by rw [hL]; exact List.mem_of_mem_take hx)).2 hK).mono (by
      have := mul_len (k := K + 1) (show (l.take i).length ≤ l.length by rw [List.length_take]; omega)
      omega)
    simp [h1, tailC, setOb, List.filter_cons]
    refine callFK_of (ref02_Add (rawOf_ok hacc) (rok okA hK31)) (by simp [toD_rawc, raw_v]) ?_
    rw [rawOf_q, ← hst]
    simp [ratV, raw_v, setOb, List.filter_cons]
    rw [wrap64 (by omega) (by omega)]
    refine ⟨i + 1, h1, by dsimp only; omega, ?_⟩
    refine weak_obs ?_ (by simp [tailC]) (by repeat (first | exact sin_empty | refine sin_set (by simp) ?_)) ?_
    · repeat (first | exact sub_empty | refine sub_set (by simp) ?_)
    · simp [tailC]; exact fun y hy => rawc_within _ y hy
  · have hil : i = l.length := by omega
    subst hil
    simp [h1, tailC, setOb, List.filter_cons, toD_rawc, ratV, raw_v]
theorem ref04_Weight {m : Ms} {v : Tr} {K : Nat} (hK : 1 ≤ K) (hK31 : K ≤ 2 ^ 31) (hm : m.Ok K) (hv : v.Ok) (hl : m.parts.length ≤ 1000000) (hb : 1 + m.parts.length * (K + 1) ≤ 2 ^ 31) : CallD Tryz.prog F.ref04_Weight [m.v, .agg v.cells] (· = ratV (wsum m.parts v)) := by
  refine callD_by F.ref04_Weight_ok ?_
  unfold F.ref04_Weight_c
  simp [setOb, List.filter_cons, raw_v, msC, tailC]
  refine callK_of ref02_Zero (by simp) ?_
  simp [setOb, List.filter_cons, ratV, raw_v]
  generalize hL : m.parts = l at hl hb ⊢
  refine wm_loop (fun g : Nat => (((((Sl.empty.set 6 (.int .i64 g)).set 5 (.ptr 3 0 0)).set 4 (.ptr 2 0 0)).set 3 (.ptr 1 0 0)).set 2 (.ptr 0 0 0),
      [(0, ⟨.own, 16, [pl l :: tailC m.rf m.lo m.f0 m.f1 m.f2]⟩), (1, ⟨.own, 3, [v.cells]⟩), (2, ⟨.own, 3, [[.bool false, .nils, .nils]]⟩), (3, ⟨.own, 3, [(rawOf (wsum (l.take g) v)).c]⟩)]))
    (fun g => g ≤ l.length) (fun g => l.length - g) 0 (by omega) ?_ ?_
  · refine weak_obs ?_ (by simp [wsum, sumBy, tailC]) (by repeat (first | exact sin_empty | refine sin_set (by simp) ?_)) ?_
    · repeat (first | exact sub_empty | refine sub_set (by simp) ?_)
    · simp [tailC]; exact ⟨fun y hy => cells_within _ y hy, fun y hy => rawc_within _ y hy⟩
  intro i hi
  by_cases h1 : i < l.length
  · have okP := hm.parts _ (by rw [hL]; exact List.getElem_mem h1)
    have hst : wsum (l.take (i + 1)) v = wsum (l.take i) v + (if l[i].v = v then l[i].w.q else 0) := sumBy_take (f := fun p : Part => if p.v = v then p.w.q else 0) h1
    have hacc : Fits (wsum (l.take i) v) (2 ^ 31) := (wsum_fits hK (fun x hx => Raw.fits (hm.parts x (by rw [hL]; exact List.mem_of_mem_take hx)).2 hK) v).mono (by
      have := mul_len (k := K + 1) (show (l.take i).length ≤ l.length by rw [List.length_take]; omega)
      omega)
    simp [h1, tailC, setOb, List.filter_cons]
    refine callFK_of (ref03_Same okP.1 hv) (by simp [toD_cells]) ?_
    by_cases e : l[i].v = v
    · rw [if_pos e] at hst
      have e2 : cmpT v v = 0 := (cmpT_zero _ _).2 rfl
      simp [h1, e, e2, setOb, List.filter_cons]
      refine callFK_of (ref02_Add (rawOf_ok hacc) (rok okP.2 hK31)) (by simp [toD_rawc, raw_v]) ?_
      rw [rawOf_q, ← hst]
      simp [ratV, raw_v, setOb, List.filter_cons]
      rw [wrap64 (by omega) (by omega)]
      refine ⟨i + 1, h1, by dsimp only; omega, ?_⟩
      refine weak_obs ?_ (by simp [tailC]) (by repeat (first | exact sin_empty | refine sin_set (by simp) ?_)) ?_
      · repeat (first | exact sub_empty | refine sub_set (by simp) ?_)
      · simp [tailC]; exact ⟨fun y hy => cells_within _ y hy, fun y hy => rawc_within _ y hy⟩
    · rw [if_neg e, Rat.add_zero] at hst
      rw [← hst]
      have e2 : ¬ cmpT l[i].v v = 0 := fun h => e ((cmpT_zero _ _).1 h)
      simp [e, e2, setOb, List.filter_cons]
      rw [wrap64 (by omega) (by omega)]
      refine ⟨i + 1, h1, by dsimp only; omega, ?_⟩
      refine weak_obs ?_ (by simp [tailC]) (by repeat (first | exact sin_empty | refine sin_set (by simp) ?_)) ?_
      · repeat (first | exact sub_empty | refine sub_set (by simp) ?_)
      · simp [tailC]; exact ⟨fun y hy => cells_within _ y hy, fun y hy => rawc_within _ y hy⟩
  · have hil : i = l.length := by omega
    subst hil
    simp [h1, tailC, setOb, List.filter_cons, toD_rawc, ratV, raw_v]
theorem ref04_Total {m : Ms} {K : Nat} (hK : 1 ≤ K) (hm : m.Ok K) (hl : m.parts.length ≤ 1000000) (hb : 10 * (m.parts.length * (K + 1)) + 100 * (K + 1) ≤ 2 ^ 31) : CallD Tryz.prog F.ref04_Total [m.v] (· = ratV (totQ m)) := by
  refine callD_by F.ref04_Total_ok ?_
  unfold F.ref04_Total_c
  simp [setOb, List.filter_cons, msC, tailC]
  refine callFK_of (ref04_Values hK (by omega) hm hl (by omega)) (by simp [msC, tailC]) ?_
  simp [ratV, Raw.v, setOb, List.filter_cons]
  have f1 := psum_fits hK hm.parts
  have up : ∀ {x : Raw}, x.Ok K → x.Ok (1 + m.parts.length * (K + 1) + K) := fun hx => rok hx (by omega)
  have key : CallD Tryz.prog F.ref02_Sum [.dat ([rawOf (psum m.parts), m.rf, m.lo, m.f0, m.f1, m.f2].map Raw.c)] (· = ratV (rsum [rawOf (psum m.parts), m.rf, m.lo, m.f0, m.f1, m.f2])) :=
    ref02_Sum (K := 1 + m.parts.length * (K + 1) + K) (by omega) (by omega) (by simp; exact ⟨rawOf_ok (f1.mono (by omega)), up hm.rf, up hm.lo, up hm.f0, up hm.f1, up hm.f2⟩) (by simp) (by simp; omega)
  refine callFK_of key (by
    simp [Raw.c]
    rw [toD_refM (es := 3) (st := .own) (l := [(rawOf (psum m.parts)).c, m.rf.c, m.lo.c, m.f0.c, m.f1.c, m.f2.c]) (by simp [getOb, E.look, Raw.c]) (by simp) (by simp) (by simp [Raw.c])]
    simp [Raw.c]) ?_
  have e : rsum [rawOf (psum m.parts), m.rf, m.lo, m.f0, m.f1, m.f2] = totQ m := by
    simp [rsum, totQ, sumBy, rawOf_q]
    grind
  rw [e]
  have h4 : ∀ σ : Sto, getOb σ 2 = some ⟨.own, 3, [(rawOf (psum m.parts)).c, m.rf.c, m.lo.c, m.f0.c, m.f1.c, m.f2.c]⟩ → rch σ 12 (.ref 2 0 6) = [2] := fun σ h => rch_flatM h rfl fun r hr' => by
    simp only [List.mem_cons, List.not_mem_nil, or_false] at hr'
    rcases hr' with rfl | rfl | rfl | rfl | rfl | rfl <;> exact rch_rawc _ _ _
  simp only [Raw.c] at h4
  simp [h4, getOb, rchs, E.deep, E.look, frz, ratV, Raw.v]
end Go.Proofs.YtmjgehbpcchjpaaGreatDoor
