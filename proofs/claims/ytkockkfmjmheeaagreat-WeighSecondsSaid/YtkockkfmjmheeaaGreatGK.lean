import Derived.Test.YtkockkfmjmheeaaGreatGJ
import Derived.Test.YtkockkfmjmheeaaGreatGF
import Derived.Test.YtkockkfmjmheeaaGreatGD
namespace Go.Proofs.YtkockkfmjmheeaaGreat.F
open Go Go.Proofs Go.Proofs.YtkockkfmjmheeaaGreat.E Go.Proofs.YtkockkfmjmheeaaGreat.Q
abbrev ref01_Bits : Nat := 84
def ref01_Bits_c : MFn := ⟨27,(.seq (r [o 2 (.mv (i 0))] [0]) (.seq (r [o 5 (.mv (.t 0)),o 6 (.call 92 [(.t 5)]),o 0 (.mv (.t 6))] [0]) (.seq (.seq (r [o 7 (.mv (.t 0)),o 8 (.lenS (.t 7)),o 9 (.bin .eql (.t 8) (i 0))] [0,9]) (.cond (.t 9) (.seq (r [o 2 (.mv (i 0))] [2]) .ret) .skip)) (.seq (r [o 10 (.mv (.t 0)),o 11 (.lenS (.t 10)),o 12 (.bin .sub (.t 11) (i 1)),o 13 (.bin .mul (i 32) (.t 12)),o 3 (.mv (.t 13))] [0,3]) (.seq (.seq (r [o 14 (.mv (.t 0)),o 15 (.mv (.t 0)),o 16 (.lenS (.t 15)),o 17 (.bin .sub (.t 16) (i 1)),o 18 (.ixA 1 (.t 14) (.t 17)),o 19 (.ld none (.t 18)),o 4 (.mv (.t 19))] [3,4]) (.block 0 (.loop (.seq (.seq (r [o 20 (.mv (.t 4)),o 21 (.bin .gtr (.t 20) (.c (.int .u32 0)))] [3,4,21]) (.cond (.t 21) .skip (.exit 0))) (.seq (.block 1 (r [o 24 (.mv (.t 3)),o 25 (.bin .add (.t 24) (i 1)),o 3 (.mv (.t 25))] [3,4])) (r [o 22 (.mv (.t 4)),o 23 (.bin .quo (.t 22) (.c (.int .u32 2))),o 4 (.mv (.t 23))] [3,4])))))) (.seq (r [o 26 (.mv (.t 3)),o 2 (.mv (.t 26))] [2]) .ret)))))),[.t 2]⟩
theorem ref01_Bits_ok : cFn Tryz.prog (kps [[0],[0],[0,9],[2],[0,3],[3,4],[3,4,21],[3,4],[3,4],[2]]) [] 84 = some ref01_Bits_c := by kernel_rfl
abbrev ref01_times : Nat := 109
def ref01_times_c : MFn := ⟨42,(.seq (r [o 6 (.mv (.c .nils))] [0,1,2]) (.seq (r [o 11 (.mv (.t 2)),o 12 (.mkSl 1 4 [.int .u32 0] (.t 11) (.t 11)),o 7 (.mv (.t 12))] [0,1,7]) (.seq (r [o 8 (.mv (.c (.int .u64 0)))] [0,1,7,8]) (.seq (.seq (r [o 9 (.mv (i 0))] [0,1,7,8,9]) (.block 0 (.loop (.seq (.seq (r [o 13 (.mv (.t 9)),o 14 (.mv (.t 0)),o 15 (.lenS (.t 14)),o 16 (.bin .lss (.t 13) (.t 15))] [0,1,7,8,9,16]) (.cond (.t 16) .skip (.exit 0))) (.seq (.block 1 (.seq (r [o 19 (.mv (.t 0)),o 20 (.mv (.t 9)),o 21 (.ixA 1 (.t 19) (.t 20)),o 22 (.ld none (.t 21)),o 23 (.cvt .u64 (.t 22)),o 24 (.mv (.t 1)),o 25 (.bin .mul (.t 23) (.t 24)),o 26 (.mv (.t 8)),o 27 (.bin .add (.t 25) (.t 26)),o 10 (.mv (.t 27))] [0,1,7,9,10]) (.seq (r [o 28 (.mv (.t 7)),o 29 (.mv (.t 10)),o 30 (.bin .rem (.t 29) (.c (.int .u64 4294967296))),o 31 (.cvt .u32 (.t 30)),o 32 (.buildSl 1 1 [.int .u32 0] [(0,(.t 31))]),o 33 (.app 1 4 (.t 28) (.t 32)),o 7 (.mv (.t 33))] [0,1,7,9,10]) (r [o 34 (.mv (.t 10)),o 35 (.bin .quo (.t 34) (.c (.int .u64 4294967296))),o 8 (.mv (.t 35))] [0,1,7,8,9])))) (r [o 17 (.mv (.t 9)),o 18 (.bin .add (.t 17) (i 1)),o 9 (.mv (.t 18))] [0,1,7,8,9])))))) (.seq (r [o 36 (.mv (.t 7)),o 37 (.mv (.t 8)),o 38 (.cvt .u32 (.t 37)),o 39 (.buildSl 1 1 [.int .u32 0] [(0,(.t 38))]),o 40 (.app 1 4 (.t 36) (.t 39)),o 41 (.call 92 [(.t 40)]),o 6 (.mv (.t 41))] [6]) .ret))))),[.t 6]⟩
theorem ref01_times_ok : cFn Tryz.prog (kps [[0,1,2],[0,1,7],[0,1,7,8],[0,1,7,8,9],[0,1,7,8,9,16],[0,1,7,8,9],[0,1,7,9,10],[0,1,7,9,10],[0,1,7,8,9],[6]]) [] 109 = some ref01_times_c := by kernel_rfl
abbrev ref01_guess : Nat := 108
def ref01_guess_c : MFn := ⟨62,(.seq (r [o 6 (.mv (.c (.int .u64 0))),o 7 (.mv (.c (.int .u64 0)))] [0,1,2]) (.seq (r [o 13 (.mv (.t 1)),o 14 (.lenS (.t 13)),o 8 (.mv (.t 14))] [0,1,2,8]) (.seq (r [o 15 (.mv (.t 0)),o 16 (.mv (.t 2)),o 17 (.mv (.t 8)),o 18 (.bin .add (.t 16) (.t 17)),o 19 (.callF 94 [(.t 15),(.t 18)]),o 20 (.bin .shl (.t 19) (.c (.int .u64 32))),o 21 (.mv (.t 0)),o 22 (.mv (.t 2)),o 23 (.mv (.t 8)),o 24 (.bin .add (.t 22) (.t 23)),o 25 (.bin .sub (.t 24) (i 1)),o 26 (.callF 94 [(.t 21),(.t 25)]),o 27 (.bin .or (.t 20) (.t 26)),o 28 (.mv (.t 1)),o 29 (.mv (.t 8)),o 30 (.bin .sub (.t 29) (i 1)),o 31 (.ixA 1 (.t 28) (.t 30)),o 32 (.ld none (.t 31)),o 33 (.cvt .u64 (.t 32)),o 9 (.mv (.t 27)),o 10 (.mv (.t 33))] [9,10]) (.seq (r [o 11 (.mv (.c (.int .u64 0))),o 12 (.mv (.c (.int .u64 4294967295)))] [9,10,11,12]) (.seq (.seq (r [o 34 (.mv (.t 9)),o 35 (.mv (.t 10)),o 36 (.bin .quo (.t 34) (.t 35)),o 37 (.mv (.t 12)),o 38 (.bin .lss (.t 36) (.t 37))] [9,10,11,12,38]) (.cond (.t 38) (r [o 39 (.mv (.t 9)),o 40 (.mv (.t 10)),o 41 (.bin .quo (.t 39) (.t 40)),o 12 (.mv (.t 41))] [9,10,11,12]) .skip)) (.seq (.seq (r [o 42 (.mv (.t 10)),o 43 (.bin .add (.t 42) (.c (.int .u64 1))),o 44 (.bin .lss (.t 43) (.c (.int .u64 4294967296))),o 45 (.mv (.t 44)),y 46 45 (.mv (.t 9)),y 47 45 (.mv (.t 10)),y 48 45 (.bin .add (.t 47) (.c (.int .u64 1))),y 49 45 (.bin .quo (.t 46) (.t 48)),y 50 45 (.bin .lss (.t 49) (.c (.int .u64 4294967296))),o 51 (.pick (.t 45) (.t 50) (.c (.bool false)))] [9,10,11,12,51]) (.cond (.t 51) (r [o 52 (.mv (.t 9)),o 53 (.mv (.t 10)),o 54 (.bin .add (.t 53) (.c (.int .u64 1))),o 55 (.bin .quo (.t 52) (.t 54)),o 11 (.mv (.t 55))] [11,12]) .skip)) (.seq (.seq (r [o 56 (.mv (.t 11)),o 57 (.mv (.t 12)),o 58 (.bin .gtr (.t 56) (.t 57))] [11,12,58]) (.cond (.t 58) (r [o 59 (.mv (.t 12)),o 11 (.mv (.t 59))] [11,12]) .skip)) (.seq (r [o 60 (.mv (.t 11)),o 61 (.mv (.t 12)),o 6 (.mv (.t 60)),o 7 (.mv (.t 61))] [6,7]) .ret)))))))),[.t 6,.t 7]⟩
theorem ref01_guess_ok : cFn Tryz.prog (kps [[0,1,2],[0,1,2,8],[9,10],[9,10,11,12],[9,10,11,12,38],[9,10,11,12],[9,10,11,12,51],[11,12],[11,12,58],[11,12],[6,7]]) [] 108 = some ref01_guess_c := by kernel_rfl
abbrev ref01_Div : Nat := 86
def ref01_Div_c : MFn := ⟨98,(.seq (r [o 4 (.mv (.c .nils)),o 5 (.mv (.c .nils)),o 6 (.mv (i 0))] [0,1]) (.seq (r [o 14 (.mv (.t 0)),o 15 (.call 92 [(.t 14)]),o 16 (.mv (.t 1)),o 17 (.call 92 [(.t 16)]),o 0 (.mv (.t 15)),o 1 (.mv (.t 17))] [0,1]) (.seq (.seq (r [o 18 (.mv (.t 1)),o 19 (.lenS (.t 18)),o 20 (.bin .eql (.t 19) (i 0))] [0,1,20]) (.cond (.t 20) (.seq (r [o 4 (.mv (.c .nils)),o 5 (.mv (.c .nils)),o 6 (.mv (i 31))] [4,5,6]) .ret) .skip)) (.seq (.seq (r [o 21 (.mv (.t 1)),o 22 (.lenS (.t 21)),o 23 (.bin .eql (.t 22) (i 1))] [0,1,23]) (.cond (.t 23) (.seq (r [o 25 (.mv (.t 0)),o 26 (.mv (.t 1)),o 27 (.ixA 1 (.t 26) (i 0)),o 28 (.ld none (.t 27)),o 29 (.cvt .u64 (.t 28)),o 30 (.call 107 [(.t 25),(.t 29)]),o 24 (.mv (.t 30)),o 31 (.ext (.t 24) 0),o 32 (.ext (.t 24) 1),o 7 (.mv (.t 31)),o 8 (.mv (.t 32))] [7,8]) (.seq (r [o 33 (.mv (.t 7)),o 34 (.mv (.t 8)),o 35 (.call 63 [(.t 34)]),o 4 (.mv (.t 33)),o 5 (.mv (.t 35)),o 6 (.mv (i 0))] [4,5,6]) .ret)) .skip)) (.seq (.seq (r [o 36 (.mv (.t 0)),o 37 (.lenS (.t 36)),o 38 (.mv (.t 1)),o 39 (.lenS (.t 38)),o 40 (.bin .lss (.t 37) (.t 39))] [0,1,40]) (.cond (.t 40) (.seq (r [o 41 (.mv (.t 0)),o 4 (.mv (.c .nils)),o 5 (.mv (.t 41)),o 6 (.mv (i 0))] [4,5,6]) .ret) .skip)) (.seq (r [o 42 (.mv (.t 0)),o 43 (.lenS (.t 42)),o 44 (.mkSl 1 4 [.int .u32 0] (.t 43) (.t 43)),o 9 (.mv (.t 44))] [0,1,9]) (.seq (.seq (r [o 45 (.mv (.t 0)),o 46 (.lenS (.t 45)),o 47 (.mv (.t 1)),o 48 (.lenS (.t 47)),o 49 (.bin .sub (.t 46) (.t 48)),o 10 (.mv (.t 49))] [0,1,9,10]) (.block 0 (.loop (.seq (.seq (r [o 50 (.mv (.t 10)),o 51 (.bin .geq (.t 50) (i 0))] [0,1,9,10,51]) (.cond (.t 51) .skip (.exit 0))) (.seq (.block 1 (.seq (r [o 55 (.mv (.t 0)),o 56 (.mv (.t 1)),o 57 (.mv (.t 10)),o 58 (.call 108 [(.t 55),(.t 56),(.t 57)]),o 54 (.mv (.t 58)),o 59 (.ext (.t 54) 0),o 60 (.ext (.t 54) 1),o 11 (.mv (.t 59)),o 12 (.mv (.t 60))] [0,1,9,10,11,12]) (.seq (.block 2 (.loop (.seq (.seq (r [o 61 (.mv (.t 11)),o 62 (.mv (.t 12)),o 63 (.bin .lss (.t 61) (.t 62))] [0,1,9,10,11,12,63]) (.cond (.t 63) .skip (.exit 2))) (.block 3 (.seq (r [o 64 (.mv (.t 11)),o 65 (.mv (.t 12)),o 66 (.mv (.t 11)),o 67 (.bin .sub (.t 65) (.t 66)),o 68 (.bin .add (.t 67) (.c (.int .u64 1))),o 69 (.bin .quo (.t 68) (.c (.int .u64 2))),o 70 (.bin .add (.t 64) (.t 69)),o 13 (.mv (.t 70))] [0,1,9,10,11,12,13]) (.seq (r [o 71 (.mv (.t 1)),o 72 (.mv (.t 13)),o 73 (.mv (.t 10)),o 74 (.call 109 [(.t 71),(.t 72),(.t 73)]),o 75 (.mv (.t 0)),o 76 (.call 68 [(.t 74),(.t 75)]),o 77 (.bin .leq (.t 76) (i 0))] [0,1,9,10,11,12,13,77]) (.cond (.t 77) (r [o 78 (.mv (.t 13)),o 11 (.mv (.t 78))] [0,1,9,10,11,12]) (r [o 79 (.mv (.t 13)),o 80 (.bin .sub (.t 79) (.c (.int .u64 1))),o 12 (.mv (.t 80))] [0,1,9,10,11,12])))))))) (.seq (r [o 81 (.mv (.t 9)),o 82 (.mv (.t 10)),o 83 (.mv (.t 11)),o 84 (.cvt .u32 (.t 83)),o 85 (.ixA 1 (.t 81) (.t 82)),z (.st 1 (.t 85) (.t 84))] [0,1,9,10,11]) (r [o 87 (.mv (.t 0)),o 88 (.mv (.t 1)),o 89 (.mv (.t 11)),o 90 (.mv (.t 10)),o 91 (.call 109 [(.t 88),(.t 89),(.t 90)]),o 92 (.call 69 [(.t 87),(.t 91)]),o 86 (.mv (.t 92)),o 93 (.ext (.t 86) 0),o 94 (.ext (.t 86) 1),o 0 (.mv (.t 93))] [0,1,9,10]))))) (r [o 52 (.mv (.t 10)),o 53 (.bin .sub (.t 52) (i 1)),o 10 (.mv (.t 53))] [0,1,9,10])))))) (.seq (r [o 95 (.mv (.t 9)),o 96 (.call 92 [(.t 95)]),o 97 (.mv (.t 0)),o 4 (.mv (.t 96)),o 5 (.mv (.t 97)),o 6 (.mv (i 0))] [4,5,6]) .ret)))))))),[.t 4,.t 5,.t 6]⟩
theorem ref01_Div_ok : cFn Tryz.prog (kps [[0,1],[0,1],[0,1,20],[4,5,6],[0,1,23],[7,8],[4,5,6],[0,1,40],[4,5,6],[0,1,9],[0,1,9,10],[0,1,9,10,51],[0,1,9,10],[0,1,9,10,11,12],[0,1,9,10,11,12,63],[0,1,9,10,11,12,13],[0,1,9,10,11,12,13,77],[0,1,9,10,11,12],[0,1,9,10,11,12],[0,1,9,10,11],[0,1,9,10],[4,5,6]]) [] 86 = some ref01_Div_c := by kernel_rfl
abbrev ref01_Gcd : Nat := 85
def ref01_Gcd_c : MFn := ⟨84,(.seq (r [o 4 (.mv (.c .nils))] [0,1]) (.seq (r [o 10 (.mv (.t 0)),o 11 (.call 92 [(.t 10)]),o 12 (.mv (.t 1)),o 13 (.call 92 [(.t 12)]),o 0 (.mv (.t 11)),o 1 (.mv (.t 13))] [0,1]) (.seq (r [o 15 (.mv (.t 0)),o 16 (.call 104 [(.t 15)]),o 14 (.mv (.t 16)),o 17 (.ext (.t 14) 0),o 18 (.ext (.t 14) 1),o 5 (.mv (.t 17)),o 6 (.mv (.t 18))] [0,1,5,6]) (.seq (r [o 20 (.mv (.t 1)),o 21 (.call 104 [(.t 20)]),o 19 (.mv (.t 21)),o 22 (.ext (.t 19) 0),o 23 (.ext (.t 19) 1),o 7 (.mv (.t 22)),o 8 (.mv (.t 23))] [0,1,5,6,7,8]) (.seq (.seq (r [o 24 (.mv (.t 6)),o 25 (.mv (.t 24)),y 26 25 (.mv (.t 8)),o 27 (.pick (.t 25) (.t 26) (.c (.bool false)))] [0,1,5,7,27]) (.cond (.t 27) (.seq (.block 0 (.loop (.seq (.seq (r [o 28 (.mv (.t 7)),o 29 (.bin .neq (.t 28) (.c (.int .u64 0)))] [5,7,29]) (.cond (.t 29) .skip (.exit 0))) (.block 1 (r [o 30 (.mv (.t 7)),o 31 (.mv (.t 5)),o 32 (.mv (.t 7)),o 33 (.bin .rem (.t 31) (.t 32)),o 5 (.mv (.t 30)),o 7 (.mv (.t 33))] [5,7]))))) (.seq (r [o 34 (.mv (.t 5)),o 35 (.call 63 [(.t 34)]),o 4 (.mv (.t 35))] [4]) .ret)) .skip)) (.seq (.seq (r [o 36 (.mv (.t 0)),o 37 (.lenS (.t 36)),o 38 (.bin .eql (.t 37) (i 0))] [0,1,38]) (.cond (.t 38) (.seq (r [o 39 (.mv (.t 1)),o 4 (.mv (.t 39))] [4]) .ret) .skip)) (.seq (.seq (r [o 40 (.mv (.t 1)),o 41 (.lenS (.t 40)),o 42 (.bin .eql (.t 41) (i 0))] [0,1,42]) (.cond (.t 42) (.seq (r [o 43 (.mv (.t 0)),o 4 (.mv (.t 43))] [4]) .ret) .skip)) (.seq (r [o 44 (.call 63 [(.c (.int .u64 1))]),o 9 (.mv (.t 44))] [0,1,9]) (.seq (.block 2 (.loop (.seq (.seq (r [o 45 (.mv (.t 0)),o 46 (.call 105 [(.t 45)]),o 47 (.mv (.t 46)),y 48 47 (.mv (.t 1)),y 49 47 (.call 105 [(.t 48)]),o 50 (.pick (.t 47) (.t 49) (.c (.bool false)))] [0,1,9,50]) (.cond (.t 50) .skip (.exit 2))) (.block 3 (r [o 51 (.mv (.t 0)),o 52 (.call 106 [(.t 51)]),o 53 (.mv (.t 1)),o 54 (.call 106 [(.t 53)]),o 55 (.mv (.t 9)),o 56 (.mv (.t 9)),o 57 (.call 67 [(.t 55),(.t 56)]),o 0 (.mv (.t 52)),o 1 (.mv (.t 54)),o 9 (.mv (.t 57))] [0,1,9]))))) (.seq (.block 4 (.loop (.seq (.seq (r [o 58 (.mv (.t 1)),o 59 (.lenS (.t 58)),o 60 (.bin .gtr (.t 59) (i 0))] [0,1,9,60]) (.cond (.t 60) .skip (.exit 4))) (.block 5 (.seq (.block 6 (.loop (.seq (.seq (r [o 61 (.mv (.t 0)),o 62 (.call 105 [(.t 61)])] [0,1,9,62]) (.cond (.t 62) .skip (.exit 6))) (.block 7 (r [o 63 (.mv (.t 0)),o 64 (.call 106 [(.t 63)]),o 0 (.mv (.t 64))] [0,1,9]))))) (.seq (.block 8 (.loop (.seq (.seq (r [o 65 (.mv (.t 1)),o 66 (.call 105 [(.t 65)])] [0,1,9,66]) (.cond (.t 66) .skip (.exit 8))) (.block 9 (r [o 67 (.mv (.t 1)),o 68 (.call 106 [(.t 67)]),o 1 (.mv (.t 68))] [0,1,9]))))) (.seq (.seq (r [o 69 (.mv (.t 0)),o 70 (.mv (.t 1)),o 71 (.call 68 [(.t 69),(.t 70)]),o 72 (.bin .gtr (.t 71) (i 0))] [0,1,9,72]) (.cond (.t 72) (r [o 73 (.mv (.t 1)),o 74 (.mv (.t 0)),o 0 (.mv (.t 73)),o 1 (.mv (.t 74))] [0,1,9]) .skip)) (r [o 76 (.mv (.t 1)),o 77 (.mv (.t 0)),o 78 (.call 69 [(.t 76),(.t 77)]),o 75 (.mv (.t 78)),o 79 (.ext (.t 75) 0),o 80 (.ext (.t 75) 1),o 1 (.mv (.t 79))] [0,1,9])))))))) (.seq (r [o 81 (.mv (.t 0)),o 82 (.mv (.t 9)),o 83 (.call 66 [(.t 81),(.t 82)]),o 4 (.mv (.t 83))] [4]) .ret))))))))))),[.t 4]⟩
theorem ref01_Gcd_ok : cFn Tryz.prog (kps [[0,1],[0,1],[0,1,5,6],[0,1,5,6,7,8],[0,1,5,7,27],[5,7,29],[5,7],[4],[0,1,38],[4],[0,1,42],[4],[0,1,9],[0,1,9,50],[0,1,9],[0,1,9,60],[0,1,9,62],[0,1,9],[0,1,9,66],[0,1,9],[0,1,9,72],[0,1,9],[0,1,9],[4]]) [] 85 = some ref01_Gcd_c := by kernel_rfl
end Go.Proofs.YtkockkfmjmheeaaGreat.F

namespace Go.Proofs.YtkockkfmjmheeaaGreat
open Go Go.Proofs Go.Proofs.YtkockkfmjmheeaaGreat.E
set_option linter.unusedSimpArgs false
set_option linter.unusedVariables false
theorem ref01_Bits {a : List Int} (ha : Dig a) (la : a.length ≤ 2 ^ 36) : CallD Tryz.prog F.ref01_Bits [nat a] (fun r => ∃ n : Int, r = .int .i64 n ∧ (n = 0 ↔ val a = 0)) := by
 refine callD_by F.ref01_Bits_ok ?_
 unfold F.ref01_Bits_c
 simp
 refine callK_of (ref01_trim ha (by omega)) (by simp) ?_
 have h1 := digs_le_of ha
 by_cases h0 : val a = 0
 ·simp [h0]
 ·have hp : 0 < val a := by have := val_nonneg ha; omega
  have hne : digs (val a) ≠ [] := fun h => by have := digs_nil_iff.1 h; omega
  have hD := digs_dig (val a)
  have hlen : 0 < (digs (val a)).length := List.length_pos_iff.2 hne
  have hlast := (digs_last hD hlen).1 (by rw [val_digs (by omega)])
  generalize digs (val a) = l at *
  have hld := hD.get (show l.length - 1 < l.length by omega)
  simp [hne]
  repeat simp (disch := omega) [wrap64, if_pos]
  refine wm_loop (fun g : Int × Int => ((Sl.empty.set 4 (.int .u32 g.1)).set 3 (.int .i64 g.2), [])) (fun g => (0 ≤ g.1 ∧ g.1 < 4294967296) ∧ 0 ≤ g.2 ∧ g.1 + g.2 ≤ 2 ^ 50 ∧ 0 < g.1 + g.2) (fun g => g.1.toNat) (l[l.length - 1], 32 * ((l.length : Int) - 1)) ⟨hld, by dsimp only; omega, by dsimp only; omega, by dsimp only; omega⟩ ?_ ?_
  ·exact weak_plain (fun _ _ h => h) (by repeat (first | exact sin_empty | refine sin_set (by simp) ?_))
  rintro ⟨x, n⟩ ⟨⟨hx0, hx1⟩, hn0, hs, hpos⟩
  dsimp only at hx0 hx1 hn0 hs hpos ⊢
  by_cases hx : 0 < x
  ·simp [hx]
   repeat simp (disch := omega) [wrap64, if_pos, Int.tdiv_eq_ediv_of_nonneg]
   refine ⟨(x / 2, n + 1), ⟨⟨by dsimp only; omega, by dsimp only; omega⟩, by dsimp only; omega, by dsimp only; omega, by dsimp only; omega⟩, by dsimp only; omega, weak_plain ?_ (by repeat (first | exact sin_empty | refine sin_set (by simp) ?_))⟩
   have e : x / 2 % 4294967296 = x / 2 := by omega
   simp [e]; exact fun _ _ h => h
  ·simp [hx, h0]
   omega
theorem ring_f {v p c s t r q x : Int} (hv : v + p * c = s * t) (h : r + 4294967296 * q = x * t + c) : v + p * r + p * 4294967296 * q = (s + p * x) * t := by grind
theorem ref01_times {b : List Int} {d : Int} {n : Nat} (hb : Dig b) (lb : b.length ≤ 2 ^ 35) (ln : n ≤ 2 ^ 35) (d0 : 0 ≤ d) (d1 : d < 4294967296) : CallD Tryz.prog F.ref01_times [nat b, .int .u64 d, .int .i64 n] (· = nat (digs (4294967296 ^ n * (val b * d)))) := by
 refine callD_by F.ref01_times_ok ?_
 unfold F.ref01_times_c
 simp
 repeat simp (disch := omega) [wrap64, if_pos]
 refine wm_loop (fun g : Nat × Int × List Int => (((((Sl.empty.set 9 (.int .i64 g.2.2.length)).set 8 (.int .u64 g.2.1)).set 7 (.ref g.1 0 (n + g.2.2.length))).set 1 (.int .u64 d)).set 0 (nat b), [(g.1, ⟨.own, 1, dg (List.replicate n 0 ++ g.2.2)⟩)]))
  (fun g => Dig g.2.2 ∧ g.2.2.length ≤ b.length ∧ (0 ≤ g.2.1 ∧ g.2.1 < 4294967296) ∧ val g.2.2 + 4294967296 ^ g.2.2.length * g.2.1 = val (b.take g.2.2.length) * d) (fun g => b.length - g.2.2.length) (0, 0, []) ⟨Dig.nil, by simp, by simp, by simp⟩ ?_ ?_
 ·exact weak_digs (by simp; exact fun _ _ h => h) (by simp) (by repeat (first | exact sin_empty | refine sin_set (by simp) ?_))
 rintro ⟨o, c, out⟩ ⟨hD, hlen, ⟨hc0, hc1⟩, hv⟩
 dsimp only at hD hlen hc0 hc1 hv ⊢
 by_cases hi : out.length < b.length
 ·have hbi := hb.get hi
  have hm := mul_bound hbi ⟨d0, d1⟩
  simp [hi]
  repeat simp (disch := omega) [wrap64, wrapU64, if_pos, Int.tdiv_eq_ediv_of_nonneg, Int.tmod_eq_emod_of_nonneg]
  generalize fresh _ = o'
  refine ⟨(o', (b[out.length] * d + c) / 4294967296, out ++ [(b[out.length] * d + c) % 4294967296]), ⟨hD.snoc (by omega) (by omega), by simp; omega, ⟨by dsimp only; omega, by dsimp only; omega⟩, ?_⟩, ?_, weak_digs ?_ ?_ ?_⟩
  ·simp only [List.length_append, List.length_singleton]
   rw [val_take_succ hi, val_snoc, Int.pow_succ]
   exact ring_f hv (Int.emod_add_mul_ediv _ _)
  ·simp; omega
  ·simp [← Nat.add_assoc]; exact fun _ _ h => h
  ·simp
  ·repeat (refine sin_set (by simp) ?_)
   exact sin_empty
 ·simp [hi]
  repeat simp (disch := omega) [wrap64, wrapU64, if_pos]
  generalize fresh _ = o'
  have hl : out.length = b.length := by omega
  have hcm : c % 4294967296 = c := Int.emod_eq_of_lt hc0 hc1
  have e : val (List.replicate n 0 ++ (out ++ [c % 4294967296])) = 4294967296 ^ n * (val b * d) := by
   rw [val_append, val_snoc, hcm, hv, val_replicate, List.length_replicate, List.take_of_length_le (by omega)]
   omega
  refine callK_of (ref01_trim (l := List.replicate n 0 ++ (out ++ [c % 4294967296])) ((Dig.replicate n).append (hD.snoc (by omega) (by omega))) (by simp; omega)) ?_ ?_
  ·simp
   rw [toD_digs (st := .own) (l := List.replicate n 0 ++ (out ++ [c % 4294967296])) (by simp) (by simp) (by simp; omega)]
   simp [List.take_of_length_le, ← Nat.add_assoc]
  ·simp [e]
def guessHi (f l : Int) : Int := if f / l < 4294967295 then f / l else 4294967295
def guessLo (f l : Int) : Int :=
 let low := if l + 1 < 4294967296 ∧ f / (l + 1) < 4294967296 then f / (l + 1) else 0
 if low > guessHi f l then guessHi f l else low
theorem ref01_guess {a b : List Int} {i : Nat} (ha : Dig a) (hb : Dig b) (la : a.length ≤ 2 ^ 35) (lb : b.length ≤ 2 ^ 35) (hi : i ≤ 2 ^ 35) (hp : 0 < b.length) (hl : 0 < b[b.length - 1]) :
 CallD Tryz.prog F.ref01_guess [nat a, nat b, .int .i64 i] (· = .tup [.int .u64 (guessLo (a.getD (i + b.length) 0 * 4294967296 + a.getD (i + b.length - 1) 0) b[b.length - 1]), .int .u64 (guessHi (a.getD (i + b.length) 0 * 4294967296 + a.getD (i + b.length - 1) 0) b[b.length - 1])]) := by
 refine callD_by F.ref01_guess_ok ?_
 unfold F.ref01_guess_c
 have k0 := ref01_at (l := a) (i := i + b.length) ha (by omega)
 have k1 := ref01_at (l := a) (i := i + b.length - 1) ha (by omega)
 have g0 := RAdd.getD_dig ha (i + b.length)
 have g1 := RAdd.getD_dig ha (i + b.length - 1)
 have hbl := hb.get (show b.length - 1 < b.length by omega)
 generalize a.getD (i + b.length) 0 = x at *
 generalize a.getD (i + b.length - 1) 0 = y at *
 simp
 repeat simp (disch := omega) [wrap64]
 rw [show ((i + b.length : Nat) : Int) = (i : Int) + b.length from by omega] at k0
 rw [show ((i + b.length - 1 : Nat) : Int) = (i : Int) + b.length - 1 from by omega] at k1
 refine callFK_of k0 (by simp) ?_
 simp
 repeat simp (disch := omega) [wrap64, wrapU64]
 refine callFK_of k1 (by simp) ?_
 simp
 have hb1 : b.length - 1 < b.length := by omega
 repeat simp (disch := omega) [wrap64, wrapU64, or_low, if_pos, hb1]
 generalize b[b.length - 1] = d at *
 have hd0 : ¬ d = 0 := by omega
 have hd1 : ¬ d + 1 = 0 := by omega
 have hf0 : 0 ≤ x * 4294967296 + y := by omega
 have hf1 : x * 4294967296 + y < 18446744073709551616 := by omega
 generalize x * 4294967296 + y = f at *
 have q0 : 0 ≤ f / d := Int.ediv_nonneg hf0 (by omega)
 have q1 : f / d ≤ f := Int.ediv_le_self _ hf0
 have r0 : 0 ≤ f / (d + 1) := Int.ediv_nonneg hf0 (by omega)
 have r1 : f / (d + 1) ≤ f := Int.ediv_le_self _ hf0
 have e1 : IntKind.u64.wrap (f.tdiv d) = f / d := by rw [Int.tdiv_eq_ediv_of_nonneg hf0]; exact wrapU64 q0 (by omega)
 have e2 : IntKind.u64.wrap (f.tdiv (d + 1)) = f / (d + 1) := by rw [Int.tdiv_eq_ediv_of_nonneg hf0]; exact wrapU64 r0 (by omega)
 have e3 : IntKind.u64.wrap (d + 1) = d + 1 := wrapU64 (by omega) (by omega)
 by_cases c1 : f / d < 4294967295 <;> by_cases c2 : d + 1 < 4294967296 <;> by_cases c3 : f / (d + 1) < 4294967296 <;>
  simp [hd0, hd1, e1, e2, e3, c1, c2, c3, guessLo, guessHi] <;> (try (refine ⟨fun h => ?_, fun h => ?_⟩)) <;> simp_all <;> omega
end Go.Proofs.YtkockkfmjmheeaaGreat

namespace Go.Proofs.YtkockkfmjmheeaaGreat
open Go Go.Proofs Go.Proofs.YtkockkfmjmheeaaGreat.E
set_option linter.unusedSimpArgs false
set_option linter.unusedVariables false
def divV (a b : Int) : V := if b = 0 then .tup [.dat [], .dat [], .int .i64 31] else .tup [nat (digs (a / b)), nat (digs (a % b)), .int .i64 0]
theorem ring_g {A D R v p q : Int} (h : A = v * (p * 4294967296) * D + R) : A = (q + 4294967296 * v) * p * D + (R - p * (D * q)) := by grind
namespace RDiv
variable (A D : Int)
def st (g : Nat × Int × List Int) : Sl × Sto := ((((Sl.empty.set 10 (.int .i64 ((g.1 : Int) - 1))).set 9 (.ref 0 0 (digs A).length)).set 1 (nat (digs D))).set 0 (nat (digs g.2.1)), [(0, ⟨.own, 1, dg g.2.2⟩)])
def inv (g : Nat × Int × List Int) : Prop := Dig g.2.2 ∧ g.2.2.length = (digs A).length ∧ g.1 + (digs D).length ≤ (digs A).length + 1 ∧ (0 ≤ g.2.1 ∧ g.2.1 < D * 4294967296 ^ g.1) ∧ A = val (g.2.2.drop g.1) * 4294967296 ^ g.1 * D + g.2.1
def ms (g : Nat × Int × List Int) : Nat := g.1
def st2 (k : Nat) (R : Int) (q : List Int) (g : Int × Int) : Sl × Sto := ((((((Sl.empty.set 12 (.int .u64 g.2)).set 11 (.int .u64 g.1)).set 10 (.int .i64 k)).set 9 (.ref 0 0 (digs A).length)).set 1 (nat (digs D))).set 0 (nat (digs R)), [(0, ⟨.own, 1, dg q⟩)])
def inv2 (k : Nat) (R : Int) (g : Int × Int) : Prop := 0 ≤ g.1 ∧ g.1 ≤ R / (D * 4294967296 ^ k) ∧ R / (D * 4294967296 ^ k) ≤ g.2 ∧ g.2 < 4294967296
def ms2 (g : Int × Int) : Nat := (g.2 - g.1).toNat
theorem guess_ok {D R : Int} {k : Nat} (hD : 0 < D) (hR0 : 0 ≤ R) (hR1 : R < D * 4294967296 ^ (k + 1)) {n : Nat} (hn : (digs D).length = n + 1) :
 inv2 D k R (guessLo ((digs R).getD (k + (digs D).length) 0 * 4294967296 + (digs R).getD (k + (digs D).length - 1) 0) ((digs D)[(digs D).length - 1]'(by omega)),
  guessHi ((digs R).getD (k + (digs D).length) 0 * 4294967296 + (digs R).getD (k + (digs D).length - 1) 0) ((digs D)[(digs D).length - 1]'(by omega))) ∧ 0 < (digs D)[(digs D).length - 1]'(by omega) := by
 have hlast := (digs_last (digs_dig D) (by omega)).1 (by rw [val_digs (by omega)])
 have hld := (digs_dig D).get (show (digs D).length - 1 < (digs D).length by omega)
 have hsp := val_split (l := digs D) (k := n) (by omega)
 have htk := val_lt ((digs_dig D).take n)
 have htn := val_nonneg ((digs_dig D).take n)
 rw [List.length_take, Nat.min_eq_left (by omega)] at htk
 rw [List.drop_eq_getElem_cons (show n < (digs D).length by omega), List.drop_eq_nil_of_le (by omega), val_digs (by omega)] at hsp
 have hdn : (digs D)[n]'(by omega) = (digs D)[(digs D).length - 1]'(by omega) := by congr 1; omega
 simp only [val_cons, val_nil, Int.mul_zero, Int.add_zero] at hsp
 rw [hdn] at hsp
 have hDp := digs_pow (n := D) (by omega)
 rw [hn] at hDp
 have f2 : R < 4294967296 ^ (k + n + 2) := by
  have : D * 4294967296 ^ (k + 1) ≤ 4294967296 ^ (n + 1) * 4294967296 ^ (k + 1) := Int.mul_le_mul_of_nonneg_right (by omega) (Int.le_of_lt (B_pow_pos _))
  rw [← Int.pow_add] at this
  rw [show k + n + 2 = n + 1 + (k + 1) from by omega]
  omega
 have hf := two_digits (digs_dig R) (m := k + n) (by rw [val_digs hR0]; exact f2)
 rw [val_digs hR0] at hf
 rw [show k + (digs D).length = k + n + 1 from by omega, show k + n + 1 - 1 = k + n from by omega, hf]
 generalize ((digs D)[(digs D).length - 1]'(by omega)) = d at *
 generalize val (List.take n (digs D)) = t at *
 have hd : 0 < d := by omega
 refine ⟨?_, hd⟩
 have pk := B_pow_pos k
 have pn := B_pow_pos n
 have pkn := B_pow_pos (k + n)
 have hM : (4294967296 : Int) ^ (k + n) = 4294967296 ^ k * 4294967296 ^ n := Int.pow_add ..
 have hDk : 0 < D * 4294967296 ^ k := Int.mul_pos hD pk
 have b1 : d * 4294967296 ^ (k + n) ≤ D * 4294967296 ^ k := by
  rw [hM]
  have : d * 4294967296 ^ n ≤ D := by rw [Int.mul_comm d]; omega
  have := Int.mul_le_mul_of_nonneg_right this (Int.le_of_lt pk)
  rw [Int.mul_comm (4294967296 ^ k), ← Int.mul_assoc]; exact this
 have b2 : D * 4294967296 ^ k ≤ (d + 1) * 4294967296 ^ (k + n) := by
  rw [hM]
  have : D ≤ (d + 1) * 4294967296 ^ n := by rw [Int.add_mul, Int.mul_comm d]; omega
  have := Int.mul_le_mul_of_nonneg_right this (Int.le_of_lt pk)
  rw [Int.mul_comm (4294967296 ^ k), ← Int.mul_assoc]; exact this
 have g1 : R / 4294967296 ^ (k + n) * 4294967296 ^ (k + n) ≤ R := Int.ediv_mul_le _ (by omega)
 have g2 : R < (R / 4294967296 ^ (k + n) + 1) * 4294967296 ^ (k + n) := Int.lt_ediv_add_one_mul_self R pkn
 have f0 : 0 ≤ R / 4294967296 ^ (k + n) := Int.ediv_nonneg hR0 (by omega)
 generalize R / 4294967296 ^ (k + n) = f at *
 have u := guess_hi pkn hd b1 g2 hR0
 have l := guess_lo pkn hd hDk b2 g1 f0
 have q0 : 0 ≤ R / (D * 4294967296 ^ k) := Int.ediv_nonneg hR0 (by omega)
 have q1 : R / (D * 4294967296 ^ k) < 4294967296 := Int.ediv_lt_of_lt_mul hDk (by rw [Int.pow_succ, ← Int.mul_assoc] at hR1; omega)
 have r0 : 0 ≤ f / (d + 1) := Int.ediv_nonneg f0 (by omega)
 simp only [inv2, guessLo, guessHi]
 repeat' split
 all_goals (refine ⟨?_, ?_, ?_, ?_⟩ <;> omega)
theorem loop {A D : Int} (hA : 0 ≤ A) (hD : 0 < D) (l1 : 2 ≤ (digs D).length) (l2 : (digs D).length ≤ (digs A).length) (la : (digs A).length ≤ 2 ^ 34) {S : Sl} (h0 : S 0 = some (nat (digs A))) (h1 : S 1 = some (nat (digs D))) :
 WpM Tryz.prog [] F.ref01_Div_c.body.tl.tl.tl.tl.tl S [] (DoneD F.ref01_Div_c.res (· = .tup [nat (digs (A / D)), nat (digs (A % D)), .int .i64 0])) := by
 unfold F.ref01_Div_c
 simp [MCode.tl, h0, h1]
 repeat simp (disch := omega) [wrap64, if_pos, h0, h1]
 refine wm_loop (st A D) (inv A D) ms ((digs A).length + 1 - (digs D).length, A, List.replicate (digs A).length 0) ⟨Dig.replicate _, by simp, by dsimp only; omega, ⟨hA, ?_⟩, by simp⟩ ?_ ?_
 ·dsimp only
  have e1 := digs_ge hD
  have e2 := digs_pow hA
  have e3 := Int.mul_le_mul_of_nonneg_right e1 (Int.le_of_lt (B_pow_pos ((digs A).length + 1 - (digs D).length)))
  rw [← Int.pow_add, show (digs D).length - 1 + ((digs A).length + 1 - (digs D).length) = (digs A).length from by omega] at e3
  omega
 ·simp only [st]
  refine weak_digs ?_ (by simp) (by repeat (first | exact sin_empty | refine sin_set (by simp) ?_))
  have : (((digs A).length + 1 - (digs D).length : Nat) : Int) - 1 = (digs A).length - (digs D).length := by omega
  rw [this]
  exact fun _ _ h => h
 rintro ⟨k, R, q⟩ ⟨hq, hlen, hle, ⟨hR0, hR1⟩, hv⟩
 dsimp only at hq hlen hle hR0 hR1 hv
 cases k with
 | zero =>
   simp at hR1 hv
   obtain ⟨e1, e2⟩ := div_unique (a := A) (d := D) (q := val q) (r := R) (by rw [Int.mul_comm]; exact hv) hR0 hR1
   simp [st]
   refine callK_of (ref01_trim (l := q) hq (by omega)) (by simp; rw [toD_digs (st := .own) (l := q) (by simp) (by simp) (by omega)]; simp [← hlen]) ?_
   simp [e1, e2]
 | succ k =>
   have c1 : ((k + 1 : Nat) : Int) - 1 = k := by omega
   obtain ⟨n, hn⟩ : ∃ n, (digs D).length = n + 1 := ⟨(digs D).length - 1, by omega⟩
   obtain ⟨hg, hd⟩ := guess_ok hD hR0 hR1 hn
   have pk := B_pow_pos k
   have hDk : 0 < D * 4294967296 ^ k := Int.mul_pos hD pk
   have lR : (digs R).length ≤ 2 ^ 34 + 1 := by
    have e := digs_pow (n := D) (by omega)
    have : R < 4294967296 ^ ((digs D).length + (k + 1)) := by
     rw [Int.pow_add]
     have := Int.mul_le_mul_of_nonneg_right (Int.le_of_lt e) (Int.le_of_lt (B_pow_pos (k + 1)))
     omega
    have := digs_length_le this
    omega
   simp [st, c1]
   refine callK_of (ref01_guess (i := k) (digs_dig R) (digs_dig D) (by omega) (by omega) (by omega) (by omega) hd) (by simp) ?_
   generalize guessLo _ _ = lo at *
   generalize guessHi _ _ = hi at *
   simp
   refine wm_loop (st2 A D k R q) (inv2 D k R) ms2 (lo, hi) hg ?_ ?_
   ·simp only [st2]
    exact weak_digs (fun _ _ h => h) (by simp) (by repeat (first | exact sin_empty | refine sin_set (by simp) ?_))
   rintro ⟨lo, hi⟩ ⟨b0, b1, b2, b3⟩
   dsimp only at b0 b1 b2 b3
   have key : ∀ m : Int, 4294967296 ^ k * (D * m) ≤ R ↔ m ≤ R / (D * 4294967296 ^ k) := by
    intro m
    rw [Int.le_ediv_iff_mul_le hDk]
    rw [show m * (D * 4294967296 ^ k) = 4294967296 ^ k * (D * m) from by rw [Int.mul_comm m, Int.mul_comm D, Int.mul_assoc]]
   have lenX : ∀ m : Int, 0 ≤ m → m < 4294967296 → (digs (4294967296 ^ k * (D * m))).length ≤ k + (n + 2) := by
    intro m m0 m1
    refine digs_length_le ?_
    have e := digs_pow (n := D) (by omega)
    rw [hn] at e
    have : D * m < 4294967296 ^ (n + 1) * 4294967296 := by
     have h1 : D * m ≤ D * 4294967295 := Int.mul_le_mul_of_nonneg_left (by omega) (by omega)
     omega
    rw [Int.pow_add, show n + 2 = n + 1 + 1 from rfl, Int.pow_succ _ (n + 1)]
    exact Int.mul_lt_mul_of_pos_left this pk
   by_cases hlt : lo < hi
   ·have hm0 : 0 ≤ lo + (hi - lo + 1) / 2 := by omega
    have hm1 : lo + (hi - lo + 1) / 2 < 4294967296 := by omega
    simp [st2, hlt]
    repeat simp (disch := omega) [wrapU64, Int.tdiv_eq_ediv_of_nonneg]
    generalize hmid : lo + (hi - lo + 1) / 2 = mid at *
    refine callK_of (ref01_times (digs_dig D) (d := mid) (n := k) (by omega) (by omega) hm0 hm1) (by simp) ?_
    have hX := lenX mid hm0 hm1
    have hX0 : 0 ≤ 4294967296 ^ k * (D * mid) := Int.mul_nonneg (Int.le_of_lt pk) (Int.mul_nonneg (by omega) hm0)
    rw [val_digs (by omega : 0 ≤ D)]
    simp
    refine callK_of (ref01_Compare (digs_dig (4294967296 ^ k * (D * mid))) (digs_dig R) (by omega) (by omega)) (by simp) ?_
    rw [val_digs hX0, val_digs hR0]
    have hk := key mid
    generalize 4294967296 ^ k * (D * mid) = X at *
    by_cases hx : X ≤ R
    ·have hc : (if X < R then -1 else if R < X then 1 else 0 : Int) ≤ 0 := by
      split
      ·omega
      ·rw [if_neg (by omega)]; omega
     simp [hc]
     refine ⟨(mid, hi), ⟨hm0, hk.1 hx, b2, b3⟩, by simp [ms2]; omega, ?_⟩
     simp only [st2]
     exact weak_digs (fun _ _ h => h) (by simp) (by repeat (first | exact sin_empty | refine sin_set (by simp) ?_))
    ·have hc : ¬ (if X < R then -1 else if R < X then 1 else 0 : Int) ≤ 0 := by
      rw [if_neg (by omega), if_pos (by omega)]; omega
     have hq' : R / (D * 4294967296 ^ k) < mid := by
      have := fun h => hx (hk.2 h)
      omega
     simp [hc]
     repeat simp (disch := omega) [wrapU64]
     refine ⟨(lo, mid - 1), ⟨b0, b1, by dsimp only; omega, by dsimp only; omega⟩, by simp [ms2]; omega, ?_⟩
     simp only [st2]
     exact weak_digs (fun _ _ h => h) (by simp) (by repeat (first | exact sin_empty | refine sin_set (by simp) ?_))
   ·have hQ : lo = R / (D * 4294967296 ^ k) := by omega
    simp [st2, hlt]
    repeat simp (disch := omega) [wrapU64, if_pos]
    have hl1 : lo < 4294967296 := by omega
    refine callK_of (ref01_times (digs_dig D) (d := lo) (n := k) (by omega) (by omega) b0 hl1) (by simp) ?_
    have hX := lenX lo b0 hl1
    have hX0 : 0 ≤ 4294967296 ^ k * (D * lo) := Int.mul_nonneg (Int.le_of_lt pk) (Int.mul_nonneg (by omega) b0)
    have hXR := (key lo).2 b1
    rw [val_digs (by omega : 0 ≤ D)]
    simp
    refine callK_of (ref01_Sub (digs_dig R) (digs_dig (4294967296 ^ k * (D * lo))) (by omega) (by omega)) (by simp) ?_
    rw [val_digs hX0, val_digs hR0]
    have hnew : R - 4294967296 ^ k * (D * lo) < D * 4294967296 ^ k := by
     have h2 := Int.lt_ediv_add_one_mul_self R hDk
     rw [← hQ, Int.add_mul] at h2
     have : lo * (D * 4294967296 ^ k) = 4294967296 ^ k * (D * lo) := by rw [Int.mul_comm lo, Int.mul_comm D, Int.mul_assoc]
     omega
    have hlm : lo % 4294967296 = lo := Int.emod_eq_of_lt b0 hl1
    simp [subV, Int.not_lt.2 hXR]
    repeat simp (disch := omega) [wrap64]
    refine ⟨(k, R - 4294967296 ^ k * (D * lo), q.set k (lo % 4294967296)), ⟨hq.set _ (by omega) (by omega), by simpa using hlen, by dsimp only; omega, ⟨by dsimp only; omega, hnew⟩, ?_⟩, by simp [ms], ?_⟩
    ·dsimp only
     rw [drop_set_self (by omega), val_cons, hlm]
     rw [Int.pow_succ] at hv
     exact ring_g hv
    ·simp only [st]
     exact weak_digs (fun _ _ h => h) (by simp) (by repeat (first | exact sin_empty | refine sin_set (by simp) ?_))
end RDiv
theorem ref01_Div {a b : List Int} (ha : Dig a) (hb : Dig b) (la : a.length ≤ 2 ^ 34) (lb : b.length ≤ 2 ^ 34) : CallD Tryz.prog F.ref01_Div [nat a, nat b] (· = divV (val a) (val b)) := by
 refine callD_by F.ref01_Div_ok ?_
 unfold F.ref01_Div_c
 simp
 refine callK_of (ref01_trim ha (by omega)) (by simp) ?_
 simp
 refine callK_of (ref01_trim hb (by omega)) (by simp) ?_
 have n1 := val_nonneg ha
 have n2 := val_nonneg hb
 have l1 := digs_le_of ha
 have l2 := digs_le_of hb
 generalize val a = A at *
 generalize val b = D at *
 by_cases h0 : D = 0
 ·subst h0
  simp [divV]
 ·have e1 := digs_pos (n := D) (by omega)
  by_cases hs : D / 4294967296 = 0
  ·rw [hs] at e1
   have hD : D % 4294967296 = D := by omega
   rw [hD] at e1
   simp [divV, h0, e1]
   repeat simp (disch := omega) [wrapU64]
   refine callK_of (ref01_short (digs_dig A) (by omega) (d := D) (by omega) (by omega)) (by simp) ?_
   rw [val_digs n1]
   have r0 := Int.emod_nonneg A h0
   have r1 := Int.emod_lt_of_pos A (show 0 < D by omega)
   simp
   refine callK_of (ref01_Of (n := A % D) r0 (by omega)) (by simp) ?_
   simp
  ·have e2 := digs_pos (n := D / 4294967296) (by omega)
   have hl : 2 ≤ (digs D).length := by rw [e1, e2]; simp
   have hn1 : ¬ digs D = [] := by intro h; rw [h] at hl; simp at hl
   have hn2 : ¬ ((digs D).length : Int) = 1 := by omega
   by_cases hlt : (digs A).length < (digs D).length
   ·have := digs_lt_of_length n1 hlt
    simp [divV, h0, hn1, hn2, hlt, Int.ediv_eq_zero_of_lt n1 this, Int.emod_eq_of_lt n1 this]
   ·have key := RDiv.loop (A := A) (D := D) n1 (by omega) hl (by omega) (by omega) (S := ((Sl.empty.set 40 (.bool false)).set 1 (nat (digs D))).set 0 (nat (digs A))) rfl rfl
    simp [divV, h0, hn1, hn2, hlt]
    unfold F.ref01_Div_c at key
    simpa [MCode.tl, hlt] using key
end Go.Proofs.YtkockkfmjmheeaaGreat

namespace Go.Proofs.YtkockkfmjmheeaaGreat
open Go Go.Proofs Go.Proofs.YtkockkfmjmheeaaGreat.E
set_option linter.unusedSimpArgs false
set_option linter.unusedVariables false
namespace RGcd
def st0 (g : Nat × Nat) : Sl × Sto := ((Sl.empty.set 7 (.int .u64 (g.2 : Int))).set 5 (.int .u64 (g.1 : Int)), [])
def st3 (g : Nat × Nat × Nat) : Sl × Sto := (((Sl.empty.set 9 (nat (digs (g.2.2 : Int)))).set 1 (nat (digs (g.2.1 : Int)))).set 0 (nat (digs (g.1 : Int))), [])
end RGcd
namespace RGcd
theorem even_cast {a : Nat} : ((a : Int) % 2 = 0) = (a % 2 = 0) := by apply propext; omega
theorem half_cast (a : Nat) : ((a : Int) / 2) = ((a / 2 : Nat) : Int) := by omega
theorem len_le {a n : Nat} (h : a ≤ n) : (digs (a : Int)).length ≤ (digs (n : Int)).length := digs_length_mono (by omega) (by omega)
theorem sub3 {S : Sl} {a b t : Nat} (h0 : S 0 = some (nat (digs (a : Int)))) (h1 : S 1 = some (nat (digs (b : Int)))) (h9 : S 9 = some (nat (digs (t : Int)))) : Sub (st3 (a, b, t)).1 S := sub_set h0 (sub_set h1 (sub_set h9 sub_empty))
theorem weak3 {S : Sl} {a b t : Nat} (h : Sub (st3 (a, b, t)).1 S) : Weak [] (st3 (a, b, t)).1 (st3 (a, b, t)).2 S [] := by
 refine weak_plain h ?_
 simp only [st3]
 repeat (first | exact sin_empty | refine sin_set (by simp) ?_)
def inv1 (G N : Nat) (g : Nat × Nat × Nat) : Prop := 0 < g.1 ∧ 0 < g.2.1 ∧ 0 < g.2.2 ∧ Nat.gcd g.1 g.2.1 * g.2.2 = G ∧ g.1 * g.2.2 ≤ N ∧ g.2.1 * g.2.2 ≤ N
def inv2 (G N : Nat) (g : Nat × Nat × Nat) : Prop := 0 < g.1 ∧ 0 < g.2.2 ∧ Nat.gcd g.1 g.2.1 * g.2.2 = G ∧ g.1 ≤ N ∧ g.2.1 ≤ N ∧ g.2.2 ≤ N ∧ (g.1 % 2 = 1 ∨ g.2.1 % 2 = 1)
def ms (g : Nat × Nat × Nat) : Nat := g.1 + g.2.1
theorem loop2 {G N : Nat} (lN : (digs (N : Int)).length ≤ 2 ^ 33) {a b t : Nat} (h : inv2 G N (a, b, t)) {S : Sl} (hS : Sub (st3 (a, b, t)).1 S) :
 WpM Tryz.prog [] (F.ref01_Gcd_c.body.tls 9) S [] (DoneD F.ref01_Gcd_c.res (· = nat (digs (G : Nat)))) := by
 unfold F.ref01_Gcd_c
 simp
 refine wm_loop st3 (inv2 G N) ms (a, b, t) h (weak3 hS) ?_
 rintro ⟨a, b, t⟩ ⟨a0, t0, hg, la, lb, lt, ho⟩
 dsimp only at a0 t0 hg la lb lt ho
 have l1 := len_le la
 have l2 := len_le lb
 have l3 := len_le lt
 by_cases hb : b = 0
 ·subst hb
  simp at hg
  simp [st3]
  refine callK_of (ref01_Mul (digs_dig (a : Int)) (digs_dig (t : Int)) (by omega) (by omega)) (by simp) ?_
  rw [val_digs (by omega : (0 : Int) ≤ a), val_digs (by omega : (0 : Int) ≤ t), ← Int.natCast_mul, hg]
  simp
 ·have hl : 0 < (digs (b : Int)).length := by rw [digs_pos (by omega)]; simp
  have hl' : ¬ digs (b : Int) = [] := by intro e; rw [e] at hl; simp at hl
  simp [st3, hl, hl']
  refine wm_loop (fun k : Nat => st3 (k, b, t)) (fun k => 0 < k ∧ k ≤ a ∧ Nat.gcd k b * t = G ∧ (k % 2 = 1 ∨ b % 2 = 1)) id a ⟨a0, Nat.le_refl _, hg, ho⟩ (weak3 (sub3 (by simp) (by simp) (by simp))) ?_
  rintro k ⟨k0, ka, kg, ko⟩
  have l4 := len_le ka
  simp [st3]
  refine callK_of (ref01_even (digs_dig (k : Int)) (by omega)) (by simp) ?_
  rw [val_digs (by omega : (0 : Int) ≤ k)]
  by_cases hk : k % 2 = 0
  ·have hb1 : b % 2 = 1 := by omega
   simp [even_cast, hk]
   refine callK_of (ref01_half (digs_dig (k : Int)) (by omega)) (by simp) ?_
   rw [val_digs (by omega : (0 : Int) ≤ k), half_cast]
   simp
   refine ⟨k / 2, ⟨by omega, by omega, by rw [gcd_half_left hk hb1]; exact kg, .inr hb1⟩, by simp; omega, weak3 (sub3 (by simp) (by simp) (by simp))⟩
  ·have hk1 : k % 2 = 1 := by omega
   simp [even_cast, hk]
   refine wm_loop (fun j : Nat => st3 (k, j, t)) (fun j => 0 < j ∧ j ≤ b ∧ Nat.gcd k j * t = G) id b ⟨by omega, Nat.le_refl _, kg⟩ (weak3 (sub3 (by simp) (by simp) (by simp))) ?_
   rintro j ⟨j0, jb, jg⟩
   have l5 := len_le jb
   simp [st3]
   refine callK_of (ref01_even (digs_dig (j : Int)) (by omega)) (by simp) ?_
   rw [val_digs (by omega : (0 : Int) ≤ j)]
   by_cases hj : j % 2 = 0
   ·simp [even_cast, hj]
    refine callK_of (ref01_half (digs_dig (j : Int)) (by omega)) (by simp) ?_
    rw [val_digs (by omega : (0 : Int) ≤ j), half_cast]
    simp
    refine ⟨j / 2, ⟨by omega, by omega, by rw [gcd_half_right hk1 hj]; exact jg⟩, by simp; omega, weak3 (sub3 (by simp) (by simp) (by simp))⟩
   ·have hj1 : j % 2 = 1 := by omega
    simp [even_cast, hj]
    refine callK_of (ref01_Compare (digs_dig (k : Int)) (digs_dig (j : Int)) (by omega) (by omega)) (by simp) ?_
    rw [val_digs (by omega : (0 : Int) ≤ k), val_digs (by omega : (0 : Int) ≤ j)]
    by_cases hc : j < k
    ·have c1 : (if (k : Int) < j then -1 else if (j : Int) < k then 1 else 0 : Int) = 1 := by rw [if_neg (by omega), if_pos (by omega)]
     rw [c1]
     simp
     refine callK_of (ref01_Sub (digs_dig (k : Int)) (digs_dig (j : Int)) (by omega) (by omega)) (by simp) ?_
     rw [val_digs (by omega : (0 : Int) ≤ k), val_digs (by omega : (0 : Int) ≤ j)]
     have e1 : subV (k : Int) j = .tup [nat (digs ((k - j : Nat) : Int)), .int .i64 0] := by
      unfold subV; rw [if_neg (by omega), show ((k : Int) - j) = ((k - j : Nat) : Int) from by omega]
     rw [e1]
     simp
     refine ⟨(j, k - j, t), ⟨j0, t0, ?_, by dsimp only; omega, by dsimp only; omega, lt, .inl hj1⟩, by simp [ms]; omega, weak3 (sub3 (by simp) (by simp) (by simp))⟩
     dsimp only
     rw [gcd_less (by omega), Nat.gcd_comm]; exact jg
    ·have c1 : ¬ (if (k : Int) < j then -1 else if (j : Int) < k then 1 else 0 : Int) > 0 := by
      by_cases e : (k : Int) < j
      ·rw [if_pos e]; omega
      ·rw [if_neg e, if_neg (by omega)]; omega
     generalize (if (k : Int) < j then -1 else if (j : Int) < k then 1 else 0 : Int) = c at c1
     simp [c1]
     refine callK_of (ref01_Sub (digs_dig (j : Int)) (digs_dig (k : Int)) (by omega) (by omega)) (by simp) ?_
     rw [val_digs (by omega : (0 : Int) ≤ k), val_digs (by omega : (0 : Int) ≤ j)]
     have e1 : subV (j : Int) k = .tup [nat (digs ((j - k : Nat) : Int)), .int .i64 0] := by
      unfold subV; rw [if_neg (by omega), show ((j : Int) - k) = ((j - k : Nat) : Int) from by omega]
     rw [e1]
     simp
     refine ⟨(k, j - k, t), ⟨k0, t0, ?_, by dsimp only; omega, by dsimp only; omega, lt, .inl hk1⟩, by simp [ms]; omega, weak3 (sub3 (by simp) (by simp) (by simp))⟩
     dsimp only
     rw [gcd_less (by omega)]; exact jg
theorem loop1 {G N : Nat} (lN : (digs (N : Int)).length ≤ 2 ^ 33) {a b : Nat} (h : inv1 G N (a, b, 1)) {S : Sl} (hS : Sub (st3 (a, b, 1)).1 S) :
 WpM Tryz.prog [] (F.ref01_Gcd_c.body.tls 8) S [] (DoneD F.ref01_Gcd_c.res (· = nat (digs (G : Nat)))) := by
 refine wm_cut 1 rfl fun R hR => ?_
 unfold F.ref01_Gcd_c
 simp
 refine wm_loop st3 (inv1 G N) ms (a, b, 1) h (weak3 hS) ?_
 rintro ⟨a, b, t⟩ ⟨a0, b0, t0, hg, la, lb⟩
 dsimp only at a0 b0 t0 hg la lb
 have ma : a ≤ N := Nat.le_trans (Nat.le_mul_of_pos_right a t0) la
 have mb : b ≤ N := Nat.le_trans (Nat.le_mul_of_pos_right b t0) lb
 have mt : t ≤ N := Nat.le_trans (Nat.le_mul_of_pos_left t a0) la
 have l1 := len_le ma
 have l2 := len_le mb
 have l3 := len_le mt
 simp [st3]
 refine callK_of (ref01_even (digs_dig (a : Int)) (by omega)) (by simp) ?_
 rw [val_digs (by omega : (0 : Int) ≤ a)]
 have next : a % 2 = 1 ∨ b % 2 = 1 → ∀ {S : Sl}, Sub (st3 (a, b, t)).1 S → WpM Tryz.prog [] R S [] (DoneD F.ref01_Gcd_c.res (· = nat (digs (G : Nat)))) := by
  intro ho S hS
  rw [hR]
  exact loop2 lN ⟨a0, t0, hg, ma, mb, mt, ho⟩ hS
 by_cases ha : a % 2 = 0
 ·simp [even_cast, ha]
  refine callK_of (ref01_even (digs_dig (b : Int)) (by omega)) (by simp) ?_
  rw [val_digs (by omega : (0 : Int) ≤ b)]
  by_cases hb : b % 2 = 0
  ·simp [even_cast, hb]
   refine callK_of (ref01_half (digs_dig (a : Int)) (by omega)) (by simp) ?_
   rw [val_digs (by omega : (0 : Int) ≤ a), half_cast]
   simp
   refine callK_of (ref01_half (digs_dig (b : Int)) (by omega)) (by simp) ?_
   rw [val_digs (by omega : (0 : Int) ≤ b), half_cast]
   simp
   refine callK_of (ref01_Add (digs_dig (t : Int)) (digs_dig (t : Int)) (by omega) (by omega)) (by simp) ?_
   rw [val_digs (by omega : (0 : Int) ≤ t), show ((t : Int) + t) = ((t + t : Nat) : Int) from by omega]
   simp
   have e1 : a = a / 2 * 2 := by omega
   have e2 : b = b / 2 * 2 := by omega
   have m1 : a / 2 * (t + t) = a * t := by
    rw [show t + t = 2 * t from by omega, ← Nat.mul_assoc, ← e1]
   have m2 : b / 2 * (t + t) = b * t := by
    rw [show t + t = 2 * t from by omega, ← Nat.mul_assoc, ← e2]
   refine ⟨(a / 2, b / 2, t + t), ⟨by dsimp only; omega, by dsimp only; omega, by dsimp only; omega, ?_, by dsimp only; omega, by dsimp only; omega⟩, by simp [ms]; omega, ?_⟩
   ·dsimp only
    have h2 : Nat.gcd a b = Nat.gcd (a / 2) (b / 2) * 2 := by
     conv => lhs; rw [e1, e2]
     exact gcd_times ..
    rw [← hg, h2, show t + t = 2 * t from by omega, Nat.mul_assoc]
   ·exact weak3 (sub3 (by simp) (by simp) (by simp))
  ·simp [even_cast, hb]
   exact next (.inr (by omega)) (sub3 (by simp) (by simp) (by simp))
 ·simp [even_cast, ha]
  exact next (.inl (by omega)) (sub3 (by simp) (by simp) (by simp))
theorem rest {x y : Nat} (lx : (digs (x : Int)).length ≤ 2 ^ 33) (ly : (digs (y : Int)).length ≤ 2 ^ 33) {S : Sl} (h0 : S 0 = some (nat (digs (x : Int)))) (h1 : S 1 = some (nat (digs (y : Int)))) :
 WpM Tryz.prog [] (F.ref01_Gcd_c.body.tls 5) S [] (DoneD F.ref01_Gcd_c.res (· = nat (digs (Nat.gcd x y : Nat)))) := by
 refine wm_cut 3 rfl fun R hR => ?_
 unfold F.ref01_Gcd_c
 by_cases hx : x = 0
 ·subst hx
  simp [h0, h1]
 by_cases hy : y = 0
 ·subst hy
  have : ¬ digs (x : Int) = [] := by rw [digs_nil_iff]; omega
  simp [h0, h1, this]
 have hx' : ¬ digs (x : Int) = [] := by rw [digs_nil_iff]; omega
 have hy' : ¬ digs (y : Int) = [] := by rw [digs_nil_iff]; omega
 simp [h0, h1, hx', hy']
 refine callK_of (ref01_Of (n := 1) (by omega) (by omega)) (by simp) ?_
 simp
 rw [hR]
 exact @loop1 (Nat.gcd x y) (max x y) (by rcases Nat.le_total x y with h | h <;> simp only [Nat.max_eq_right h, Nat.max_eq_left h] <;> assumption) x y ⟨by dsimp only; omega, by dsimp only; omega, by dsimp only; omega, by simp, by simp; omega, by simp; omega⟩ _ (sub3 (by simp) (by simp) (by simp))
end RGcd
theorem ref01_Gcd {a b : List Int} (ha : Dig a) (hb : Dig b) (la : a.length ≤ 2 ^ 33) (lb : b.length ≤ 2 ^ 33) : CallD Tryz.prog F.ref01_Gcd [nat a, nat b] (· = nat (digs (Nat.gcd (val a).toNat (val b).toNat : Nat))) := by
 refine callD_by F.ref01_Gcd_ok ?_
 refine wm_cut 5 rfl fun R hR => ?_
 have key := @RGcd.rest
 rw [← hR] at key
 unfold F.ref01_Gcd_c
 simp
 refine callK_of (ref01_trim ha (by omega)) (by simp) ?_
 simp
 refine callK_of (ref01_trim hb (by omega)) (by simp) ?_
 have n1 := val_nonneg ha
 have n2 := val_nonneg hb
 have l1 := digs_le_of ha
 have l2 := digs_le_of hb
 generalize val a = A at *
 generalize val b = D at *
 obtain ⟨x, rfl⟩ := Int.eq_ofNat_of_zero_le n1
 obtain ⟨y, rfl⟩ := Int.eq_ofNat_of_zero_le n2
 replace key := @key x y (by omega) (by omega)
 simp
 refine callK_of (ref01_Small (digs_dig (x : Int)) (by omega)) (by simp) ?_
 rw [val_digs n1]
 by_cases hx : x < 18446744073709551616
 ·have hx' : (x : Int) < 18446744073709551616 := by omega
  have es : smallV (x : Int) = .tup [.int .u64 x, .bool true] := if_pos hx'
  simp [es]
  refine callK_of (ref01_Small (digs_dig (y : Int)) (by omega)) (by simp) ?_
  rw [val_digs n2]
  by_cases hy : y < 18446744073709551616
  ·have hy' : (y : Int) < 18446744073709551616 := by omega
   have es : smallV (y : Int) = .tup [.int .u64 y, .bool true] := if_pos hy'
   simp [es]
   refine wm_loop RGcd.st0 (fun g => g.1 < 18446744073709551616 ∧ g.2 < 18446744073709551616 ∧ Nat.gcd g.1 g.2 = Nat.gcd x y) (fun g => g.2) (x, y) ⟨hx, hy, rfl⟩ ?_ ?_
   ·exact weak_plain (sub_set (by simp) (sub_set (by simp) sub_empty)) (by repeat (first | exact sin_empty | refine sin_set (by simp) ?_))
   rintro ⟨u, v⟩ ⟨hu, hv, hg⟩
   dsimp only at hu hv hg
   by_cases h0 : v = 0
   ·subst h0
    simp at hg
    simp [RGcd.st0]
    refine callK_of (ref01_Of (n := (u : Int)) (by omega) (by omega)) (by simp) ?_
    simp [hg]
   ·have hm : u % v < v := Nat.mod_lt _ (by omega)
    have e : (u : Int).tmod v = ((u % v : Nat) : Int) := by rw [Int.tmod_eq_emod_of_nonneg (by omega)]; simp
    simp [RGcd.st0, h0, e]
    refine ⟨(v, u % v), ⟨hv, by dsimp only; omega, by rw [← hg]; exact gcd_rest u v⟩, hm, ?_⟩
    exact weak_plain (sub_set (by simp) (sub_set (by simp) sub_empty)) (by repeat (first | exact sin_empty | refine sin_set (by simp) ?_))
  ·have hy' : ¬ (y : Int) < 18446744073709551616 := by omega
   have es : smallV (y : Int) = .tup [.int .u64 0, .bool false] := if_neg hy'
   simp [es]
   exact key (by simp) (by simp)
 ·have hx' : ¬ (x : Int) < 18446744073709551616 := by omega
  have es : smallV (x : Int) = .tup [.int .u64 0, .bool false] := if_neg hx'
  simp [es]
  refine callK_rel (ref01_Small (digs_dig (y : Int)) (by omega)) (by simp) ?_
  rw [val_digs n2]
  intro r hr
  have hs : ∃ u t, smallV (y : Int) = .tup [.int .u64 u, .bool t] := by
   unfold smallV; split <;> exact ⟨_, _, rfl⟩
  obtain ⟨u, t, hs⟩ := hs
  rw [hr, hs]
  simp
  exact key (by simp) (by simp)
end Go.Proofs.YtkockkfmjmheeaaGreat
