import Derived.Test.YtkockkfmjmheeaaGreatGQ
import Derived.Test.YtkockkfmjmheeaaGreatGD
import Derived.Test.YtkockkfmjmheeaaGreatGC
import Derived.Test.YtkockkfmjmheeaaGreatProg
import Derived.KernelRfl
import Derived.Test.YtkockkfmjmheeaaGreatGE
namespace Go.Proofs.YtkockkfmjmheeaaGreat.F
open Go Go.Proofs Go.Proofs.YtkockkfmjmheeaaGreat.E Go.Proofs.YtkockkfmjmheeaaGreat.Q
abbrev play_known : Nat := 45
def play_known_c : MFn := ⟨11,(.seq (r [o 1 (.box (.t 0)),o 2 (.mv (.c (.bool false)))] [1]) (.seq (r [o 3 (.fA 0 (.t 1)),o 4 (.ld none (.t 3)),o 5 (.bin .eql (.t 4) (i 1)),o 6 (.mv (.t 5)),n 7 6 (.fA 0 (.t 1)),n 8 6 (.ld none (.t 7)),n 9 6 (.bin .eql (.t 8) (i 2)),o 10 (.pick (.t 6) (.c (.bool true)) (.t 9)),o 2 (.mv (.t 10))] [2]) .ret)),[.t 2]⟩
theorem play_known_ok : cFn Tryz.prog (kps [[1],[2]]) [] 45 = some play_known_c := by kernel_rfl
abbrev play_plain_1 : Nat := 76
def play_plain_1_c : MFn := ⟨6,(.seq (r [o 1 (.box (.t 0)),o 2 (.mv (.c (.bool false)))] [1]) (.seq (r [o 3 (.fA 0 (.t 1)),o 4 (.ld none (.t 3)),o 5 (.bin .neq (.t 4) (i 1)),o 2 (.mv (.t 5))] [2]) .ret)),[.t 2]⟩
theorem play_plain_1_ok : cFn Tryz.prog (kps [[1],[2]]) [] 76 = some play_plain_1_c := by kernel_rfl
abbrev slices_IndexFunc_Term_Term : Nat := 97
def slices_IndexFunc_Term_Term_c : MFn := ⟨19,(.seq (r [o 4 (.mv (i 0))] [0,1]) (.seq (.seq (r [o 6 (.mv (.t 0)),o 7 (.lenS (.t 6)),o 8 (.mv (i 0))] [0,1,7,8]) (.block 0 (.loop (.seq (r [o 9 (.bin .lss (.t 8) (.t 7))] [0,1,7,8,9]) (.seq (.cond (.t 9) .skip (.exit 0)) (.seq (.block 1 (.seq (r [o 10 (.mv (.t 8)),o 5 (.mv (.t 10))] [0,1,5,7,8]) (.seq (r [o 11 (.mv (.t 1)),o 12 (.mv (.t 0)),o 13 (.mv (.t 5)),o 14 (.ixA 8 (.t 12) (.t 13)),o 15 (.ld (some 8) (.t 14)),o 16 (.callV (.t 11) [(.t 15)])] [0,1,5,7,8,16]) (.cond (.t 16) (.seq (r [o 17 (.mv (.t 5)),o 4 (.mv (.t 17))] [4]) .ret) .skip)))) (r [o 18 (.bin .add (.t 8) (i 1)),o 8 (.mv (.t 18))] [0,1,7,8]))))))) (.seq (r [o 4 (.mv (i (-1)))] [4]) .ret))),[.t 4]⟩
theorem slices_IndexFunc_Term_Term_ok : cFn Tryz.prog (kps [[0,1],[0,1,7,8],[0,1,7,8,9],[0,1,5,7,8],[0,1,5,7,8,16],[4],[0,1,7,8],[4]]) [] 97 = some slices_IndexFunc_Term_Term_c := by kernel_rfl
abbrev slices_ContainsFunc_Term_Term : Nat := 75
def slices_ContainsFunc_Term_Term_c : MFn := ⟨9,(.seq (r [o 4 (.mv (.c (.bool false)))] [0,1]) (.seq (r [o 5 (.mv (.t 0)),o 6 (.mv (.t 1)),o 7 (.call 97 [(.t 5),(.t 6)]),o 8 (.bin .geq (.t 7) (i 0)),o 4 (.mv (.t 8))] [4]) .ret)),[.t 4]⟩
theorem slices_ContainsFunc_Term_Term_ok : cFn Tryz.prog (kps [[0,1],[4]]) [] 75 = some slices_ContainsFunc_Term_Term_c := by kernel_rfl
abbrev play_plain : Nat := 44
def play_plain_c : MFn := ⟨27,(.seq (r [o 1 (.box (.t 0)),o 2 (.mv (.c (.bool false)))] [1]) (.seq (r [o 3 (.fA 0 (.t 1)),o 4 (.ld none (.t 3)),o 5 (.bin .eql (.t 4) (i 12)),o 6 (.mv (.t 5)),y 7 6 (.fA 7 (.t 1)),y 8 6 (.ld none (.t 7)),y 9 6 (.lenS (.t 8)),y 10 6 (.bin .gtr (.t 9) (i 0)),o 11 (.pick (.t 6) (.t 10) (.c (.bool false))),o 12 (.mv (.t 11)),y 13 12 (.fA 6 (.t 1)),y 14 12 (.ld none (.t 13)),y 15 12 (.lenS (.t 14)),y 16 12 (.fA 7 (.t 1)),y 17 12 (.ld none (.t 16)),y 18 12 (.lenS (.t 17)),y 19 12 (.bin .eql (.t 15) (.t 18)),o 20 (.pick (.t 12) (.t 19) (.c (.bool false))),o 21 (.mv (.t 20)),y 22 21 (.fA 7 (.t 1)),y 23 21 (.ld none (.t 22)),y 24 21 (.call 75 [(.t 23),(.c (.clo 76 []))]),y 25 21 (.un .not (.t 24)),o 26 (.pick (.t 21) (.t 25) (.c (.bool false))),o 2 (.mv (.t 26))] [2]) .ret)),[.t 2]⟩
theorem play_plain_ok : cFn Tryz.prog (kps [[1],[2]]) [] 44 = some play_plain_c := by kernel_rfl
abbrev play_Weighs : Nat := 17
def play_Weighs_c : MFn := ⟨59,(.seq (r [o 1 (.box (.t 0)),o 2 (.mv (.c (.bool false)))] [1]) (.seq (.seq (r [o 4 (.fA 0 (.t 1)),o 5 (.ld none (.t 4)),o 6 (.bin .neq (.t 5) (i 10)),o 7 (.mv (.t 6)),n 8 7 (.fA 7 (.t 1)),n 9 7 (.ld none (.t 8)),n 10 7 (.lenS (.t 9)),n 11 7 (.bin .neq (.t 10) (i 2)),o 12 (.pick (.t 7) (.c (.bool true)) (.t 11))] [1,12]) (.cond (.t 12) (.seq (r [o 2 (.mv (.c (.bool false)))] [2]) .ret) .skip)) (.seq (r [o 13 (.fA 7 (.t 1)),o 14 (.ld none (.t 13)),o 15 (.ixA 8 (.t 14) (i 0)),o 16 (.ld (some 8) (.t 15)),o 3 (.alloc [.int .i64 0,.int .i64 0,.int .i64 0,.int .i64 0,.int .i64 0,.nils,.nils,.nils]),z (.st 8 (.t 3) (.t 16))] [3]) (.seq (r [o 17 (.fA 0 (.t 3)),o 18 (.ld none (.t 17)),o 19 (.bin .eql (.t 18) (i 6)),o 20 (.mv (.t 19)),y 21 20 (.fA 1 (.t 3)),y 22 20 (.ld none (.t 21)),y 23 20 (.bin .eql (.t 22) (i 6)),o 24 (.pick (.t 20) (.t 23) (.c (.bool false))),o 25 (.mv (.t 24)),y 26 25 (.fA 7 (.t 3)),y 27 25 (.ld none (.t 26)),y 28 25 (.lenS (.t 27)),y 29 25 (.bin .eql (.t 28) (i 2)),o 30 (.pick (.t 25) (.t 29) (.c (.bool false))),o 31 (.mv (.t 30)),y 32 31 (.fA 7 (.t 3)),y 33 31 (.ld none (.t 32)),y 34 31 (.ixA 8 (.t 33) (i 0)),y 35 31 (.ld (some 8) (.t 34)),y 36 31 (.call 44 [(.t 35)]),y 37 31 (.mv (.t 36)),y 38 37 (.fA 7 (.t 3)),y 39 37 (.ld none (.t 38)),y 40 37 (.ixA 8 (.t 39) (i 1)),y 41 37 (.ld (some 8) (.t 40)),y 42 37 (.call 45 [(.t 41)]),y 43 31 (.pick (.t 37) (.t 42) (.c (.bool false))),y 44 31 (.mv (.t 43)),n 45 44 (.fA 7 (.t 3)),n 46 44 (.ld none (.t 45)),n 47 44 (.ixA 8 (.t 46) (i 0)),n 48 44 (.ld (some 8) (.t 47)),n 49 44 (.call 45 [(.t 48)]),n 50 44 (.mv (.t 49)),y 51 50 (.fA 7 (.t 3)),y 52 50 (.ld none (.t 51)),y 53 50 (.ixA 8 (.t 52) (i 1)),y 54 50 (.ld (some 8) (.t 53)),y 55 50 (.call 44 [(.t 54)]),n 56 44 (.pick (.t 50) (.t 55) (.c (.bool false))),y 57 31 (.pick (.t 44) (.c (.bool true)) (.t 56)),o 58 (.pick (.t 31) (.t 57) (.c (.bool false))),o 2 (.mv (.t 58))] [2]) .ret)))),[.t 2]⟩
theorem play_Weighs_ok : cFn Tryz.prog (kps [[1],[1,12],[2],[3],[2]]) [] 17 = some play_Weighs_c := by kernel_rfl
abbrev weigh_Weighs : Nat := 6
def weigh_Weighs_c : MFn := ⟨5,(.seq (r [o 1 (.box (.t 0)),o 2 (.mv (.c (.bool false)))] [1]) (.seq (r [o 3 (.ld (some 8) (.t 1)),o 4 (.call 17 [(.t 3)]),o 2 (.mv (.t 4))] [2]) .ret)),[.t 2]⟩
theorem weigh_Weighs_ok : cFn Tryz.prog (kps [[1],[2]]) [] 6 = some weigh_Weighs_c := by kernel_rfl
abbrev ref21_known : Nat := 46
def ref21_known_c : MFn := ⟨46,(.seq (r [o 2 (.box (.t 0)),o 3 (.box (.t 1)),o 4 (.mv (.c (.bool false)))] [2,3]) (.seq (.seq (r [o 7 (.fA 0 (.t 2)),o 8 (.ld none (.t 7)),o 9 (.bin .neq (.t 8) (i 12)),o 10 (.mv (.t 9)),n 11 10 (.fA 7 (.t 2)),n 12 10 (.ld none (.t 11)),n 13 10 (.lenS (.t 12)),n 14 10 (.bin .eql (.t 13) (i 0)),o 15 (.pick (.t 10) (.c (.bool true)) (.t 14)),o 16 (.mv (.t 15)),n 17 16 (.fA 7 (.t 2)),n 18 16 (.ld none (.t 17)),n 19 16 (.lenS (.t 18)),n 20 16 (.fA 6 (.t 2)),n 21 16 (.ld none (.t 20)),n 22 16 (.lenS (.t 21)),n 23 16 (.bin .neq (.t 19) (.t 22)),o 24 (.pick (.t 16) (.c (.bool true)) (.t 23)),o 25 (.mv (.t 24)),n 26 25 (.fA 0 (.t 3)),n 27 25 (.ld none (.t 26)),n 28 25 (.bin .neq (.t 27) (i 1)),n 29 25 (.mv (.t 28)),y 30 29 (.fA 0 (.t 3)),y 31 29 (.ld none (.t 30)),y 32 29 (.bin .neq (.t 31) (i 2)),n 33 25 (.pick (.t 29) (.t 32) (.c (.bool false))),o 34 (.pick (.t 25) (.c (.bool true)) (.t 33))] [2,34]) (.cond (.t 34) (.seq (r [o 4 (.mv (.c (.bool false)))] [4]) .ret) .skip)) (.seq (.seq (r [o 35 (.fA 7 (.t 2)),o 36 (.ld none (.t 35)),o 37 (.lenS (.t 36)),o 38 (.mv (i 0))] [36,37,38]) (.block 0 (.loop (.seq (r [o 39 (.bin .lss (.t 38) (.t 37))] [36,37,38,39]) (.seq (.cond (.t 39) .skip (.exit 0)) (.seq (.block 1 (.seq (r [o 40 (.ixA 8 (.t 36) (.t 38)),o 41 (.ld (some 8) (.t 40)),o 6 (.alloc [.int .i64 0,.int .i64 0,.int .i64 0,.int .i64 0,.int .i64 0,.nils,.nils,.nils]),z (.st 8 (.t 6) (.t 41))] [6,36,37,38]) (.seq (r [o 42 (.fA 0 (.t 6)),o 43 (.ld none (.t 42)),o 44 (.bin .neq (.t 43) (i 1))] [36,37,38,44]) (.cond (.t 44) (.seq (r [o 4 (.mv (.c (.bool false)))] [4]) .ret) .skip)))) (r [o 45 (.bin .add (.t 38) (i 1)),o 38 (.mv (.t 45))] [36,37,38]))))))) (.seq (r [o 4 (.mv (.c (.bool true)))] [4]) .ret)))),[.t 4]⟩
theorem ref21_known_ok : cFn Tryz.prog (kps [[2,3],[2,34],[4],[36,37,38],[36,37,38,39],[6,36,37,38],[36,37,38,44],[4],[36,37,38],[4]]) [] 46 = some ref21_known_c := by kernel_rfl
abbrev ref21_Weighs : Nat := 18
def ref21_Weighs_c : MFn := ⟨51,(.seq (r [o 1 (.box (.t 0)),o 2 (.mv (.c (.bool false)))] [1]) (.seq (.seq (r [o 4 (.fA 0 (.t 1)),o 5 (.ld none (.t 4)),o 6 (.bin .neq (.t 5) (i 10)),o 7 (.mv (.t 6)),n 8 7 (.fA 7 (.t 1)),n 9 7 (.ld none (.t 8)),n 10 7 (.lenS (.t 9)),n 11 7 (.bin .neq (.t 10) (i 2)),o 12 (.pick (.t 7) (.c (.bool true)) (.t 11))] [1,12]) (.cond (.t 12) (.seq (r [o 2 (.mv (.c (.bool false)))] [2]) .ret) .skip)) (.seq (r [o 13 (.fA 7 (.t 1)),o 14 (.ld none (.t 13)),o 15 (.ixA 8 (.t 14) (i 0)),o 16 (.ld (some 8) (.t 15)),o 3 (.alloc [.int .i64 0,.int .i64 0,.int .i64 0,.int .i64 0,.int .i64 0,.nils,.nils,.nils]),z (.st 8 (.t 3) (.t 16))] [3]) (.seq (.seq (r [o 17 (.fA 0 (.t 3)),o 18 (.ld none (.t 17)),o 19 (.bin .neq (.t 18) (i 6)),o 20 (.mv (.t 19)),n 21 20 (.fA 1 (.t 3)),n 22 20 (.ld none (.t 21)),n 23 20 (.bin .neq (.t 22) (i 6)),o 24 (.pick (.t 20) (.c (.bool true)) (.t 23)),o 25 (.mv (.t 24)),n 26 25 (.fA 7 (.t 3)),n 27 25 (.ld none (.t 26)),n 28 25 (.lenS (.t 27)),n 29 25 (.bin .neq (.t 28) (i 2)),o 30 (.pick (.t 25) (.c (.bool true)) (.t 29))] [3,30]) (.cond (.t 30) (.seq (r [o 2 (.mv (.c (.bool false)))] [2]) .ret) .skip)) (.seq (r [o 31 (.fA 7 (.t 3)),o 32 (.ld none (.t 31)),o 33 (.ixA 8 (.t 32) (i 0)),o 34 (.ld (some 8) (.t 33)),o 35 (.fA 7 (.t 3)),o 36 (.ld none (.t 35)),o 37 (.ixA 8 (.t 36) (i 1)),o 38 (.ld (some 8) (.t 37)),o 39 (.callF 46 [(.t 34),(.t 38)]),o 40 (.mv (.t 39)),n 41 40 (.fA 7 (.t 3)),n 42 40 (.ld none (.t 41)),n 43 40 (.ixA 8 (.t 42) (i 1)),n 44 40 (.ld (some 8) (.t 43)),n 45 40 (.fA 7 (.t 3)),n 46 40 (.ld none (.t 45)),n 47 40 (.ixA 8 (.t 46) (i 0)),n 48 40 (.ld (some 8) (.t 47)),n 49 40 (.callF 46 [(.t 44),(.t 48)]),o 50 (.pick (.t 40) (.c (.bool true)) (.t 49)),o 2 (.mv (.t 50))] [2]) .ret))))),[.t 2]⟩
theorem ref21_Weighs_ok : cFn Tryz.prog (kps [[1],[1,12],[2],[3],[3,30],[2],[2]]) [] 18 = some ref21_Weighs_c := by kernel_rfl
abbrev ref31_Weighs : Nat := 7
def ref31_Weighs_c : MFn := ⟨5,(.seq (r [o 1 (.box (.t 0)),o 2 (.mv (.c (.bool false)))] [1]) (.seq (r [o 3 (.ld (some 8) (.t 1)),o 4 (.call 18 [(.t 3)]),o 2 (.mv (.t 4))] [2]) .ret)),[.t 2]⟩
theorem ref31_Weighs_ok : cFn Tryz.prog (kps [[1],[2]]) [] 7 = some ref31_Weighs_c := by kernel_rfl
abbrev law30_size : Nat := 16
def law30_size_c : MFn := ⟨46,(.seq (r [o 3 (.box (.t 0))] [1,2,3]) (.seq (r [o 7 (.mv (.t 2)),o 8 (.fA 0 (.t 7)),o 9 (.ld none (.t 8)),o 10 (.fA 6 (.t 3)),o 11 (.ld none (.t 10)),o 12 (.lenS (.t 11)),o 13 (.bin .add (i 1) (.t 12)),o 14 (.fA 3 (.t 3)),o 15 (.ld (some 3) (.t 14)),o 16 (.callF 10 [(.t 15)]),o 17 (.bin .add (.t 13) (.t 16)),o 18 (.bin .sub (.t 9) (.t 17)),o 19 (.fA 0 (.t 7)),z (.st 1 (.t 19) (.t 18))] [1,2,3]) (.seq (.seq (r [o 20 (.mv (.t 1)),o 21 (.bin .gtr (.t 20) (i 60))] [1,2,3,21]) (.cond (.t 21) (r [o 22 (.mv (.t 2)),o 23 (.fA 0 (.t 22)),z (.st 1 (.t 23) (i (-1)))] [1,2,3]) .skip)) (.seq (r [o 6 (.mv (i 0))] [1,2,3,6]) (.block 0 (.loop (.seq (.seq (r [o 24 (.mv (.t 6)),o 25 (.fA 7 (.t 3)),o 26 (.ld none (.t 25)),o 27 (.lenS (.t 26)),o 28 (.bin .lss (.t 24) (.t 27)),o 29 (.mv (.t 28)),y 30 29 (.mv (.t 2)),y 31 29 (.fA 0 (.t 30)),y 32 29 (.ld none (.t 31)),y 33 29 (.bin .geq (.t 32) (i 0)),o 34 (.pick (.t 29) (.t 33) (.c (.bool false)))] [1,2,3,6,34]) (.cond (.t 34) .skip (.exit 0))) (.seq (.block 1 (r [o 37 (.fA 7 (.t 3)),o 38 (.ld none (.t 37)),o 39 (.mv (.t 6)),o 40 (.ixA 8 (.t 38) (.t 39)),o 41 (.ld (some 8) (.t 40)),o 42 (.mv (.t 1)),o 43 (.bin .add (.t 42) (i 1)),o 44 (.mv (.t 2)),o 45 (.call 16 [(.t 41),(.t 43),(.t 44)])] [1,2,3,6])) (r [o 35 (.mv (.t 6)),o 36 (.bin .add (.t 35) (i 1)),o 6 (.mv (.t 36))] [1,2,3,6]))))))))),[]⟩
theorem law30_size_ok : cFn Tryz.prog (kps [[1,2,3],[1,2,3],[1,2,3,21],[1,2,3],[1,2,3,6],[1,2,3,6,34],[1,2,3,6],[1,2,3,6]]) [] 16 = some law30_size_c := by kernel_rfl
end Go.Proofs.YtkockkfmjmheeaaGreat.F

namespace Go.Proofs.YtkockkfmjmheeaaGreat
open Go Go.Proofs Go.Proofs.YtkockkfmjmheeaaGreat.E
set_option linter.unusedSimpArgs false
set_option linter.unusedVariables false
theorem trm_inv {n : Nat} {vs : List V} (h : Typed Tryz.prog n T.term vs) : ∃ (k a b x y : Int) (vl o ks : List (List V)) (v : Tr), vs = [.int .i64 k, .int .i64 a, .int .i64 b, .int .i64 x, .int .i64 y, .dat vl, .dat o, .dat ks] ∧ [.int .i64 x, .int .i64 y, .dat vl] = v.cells ∧ v.Ok ∧
 o.length ≤ maxLen ∧ ks.length ≤ maxLen ∧ ∃ m, m < n ∧ ∀ u ∈ ks, Typed Tryz.prog m T.term u := by
 obtain ⟨m0, hm0, h⟩ := E.typed_st (l := [T.int, T.int, T.int, T.value, T.ints, T.terms]) (by kernel_rfl) h
 obtain ⟨c1, r1, rfl, h1, h⟩ := E.all_cons h
 obtain ⟨c2, r2, rfl, h2, h⟩ := E.all_cons h
 obtain ⟨c3, r3, rfl, h3, h⟩ := E.all_cons h
 obtain ⟨c4, r4, rfl, h4, h⟩ := E.all_cons h
 obtain ⟨c5, r5, rfl, h5, h⟩ := E.all_cons h
 obtain ⟨c6, r6, rfl, h6, h⟩ := E.all_cons h
 have := E.all_nil h
 subst this
 obtain ⟨k, rfl, _⟩ := read_int h1
 obtain ⟨a, rfl, _⟩ := read_int h2
 obtain ⟨b, rfl, _⟩ := read_int h3
 obtain ⟨v, rfl, hv⟩ := read_tree h4
 obtain ⟨o, rfl, ho, _⟩ := E.typed_sl (e := T.int) (by kernel_rfl) h5
 obtain ⟨ks, rfl, hk, m, hm, hks⟩ := E.typed_sl (e := T.term) (by kernel_rfl) h6
 obtain ⟨x, y, l⟩ := v
 exact ⟨k, a, b, x, y, l.map Tr.cells, o, ks, .mk x y l, by simp [cells_mk], by simp [cells_mk], hv, ho, hk, m, by omega, hks⟩
theorem trm_len {n : Nat} {t : List V} (h : Typed Tryz.prog n T.term t) : t.length = 8 := by
 obtain ⟨k, a, b, x, y, vl, o, ks, v, rfl, _⟩ := trm_inv h; rfl
theorem trm_toD {n : Nat} {t : List V} (h : Typed Tryz.prog n T.term t) (σ : Sto) (j : Nat) : mapO (toD σ (j + 1)) t = some t := by
 obtain ⟨k, a, b, x, y, vl, o, ks, v, rfl, _⟩ := trm_inv h; rfl
theorem trm_within {n : Nat} {t : List V} (h : Typed Tryz.prog n T.term t) (p : Nat → Bool) : ∀ z ∈ t, z.within p = true := by
 obtain ⟨k, a, b, x, y, vl, o, ks, v, rfl, _⟩ := trm_inv h
 intro z hz
 simp at hz
 rcases hz with rfl | rfl | rfl | rfl | rfl | rfl | rfl | rfl <;> simp [V.within]
def kd : List V → Int
 | .int _ k :: _ => k
 | _ => 0
theorem kd_cons (j : IntKind) (k : Int) (r : List V) : kd (.int j k :: r) = k := rfl
def opn : List V → Int
 | _ :: .int _ k :: _ => k
 | _ => 0
def oddL : List V → List (List V)
 | [_, _, _, _, _, _, .dat o, _] => o
 | _ => []
def kidL : List V → List (List V)
 | [_, _, _, _, _, _, _, .dat ks] => ks
 | _ => []
def plainB (t : List V) : Bool := decide (kd t = 12) && decide (0 < (kidL t).length) && decide ((oddL t).length = (kidL t).length) && (kidL t).all fun u => decide (kd u = 1)
def knownB (t : List V) : Bool := decide (kd t = 1) || decide (kd t = 2)
def two (l : List (List V)) (f : List V → List V → Bool) : Bool := match l with
 | [x, y] => f x y
 | _ => false
theorem two_mk (x y : List V) (f : List V → List V → Bool) : two [x, y] f = f x y := rfl
theorem two_no {l : List (List V)} (h : ¬ l.length = 2) (f : List V → List V → Bool) : two l f = false := by
 match l, h with
 | [], _ => rfl
 | [_], _ => rfl
 | [_, _], h => exact (h rfl).elim
 | _ :: _ :: _ :: _, _ => rfl
def opB (x : List V) : Bool := decide (kd x = 6) && decide (opn x = 6) && two (kidL x) fun p q => (plainB p && knownB q) || (knownB p && plainB q)
def weighsB (t : List V) : Bool := decide (kd t = 10) && two (kidL t) fun x _ => opB x
theorem opn_cons (i j : IntKind) (k m : Int) (r : List V) : opn (.int i k :: .int j m :: r) = m := rfl
theorem kidL_mk (a b c d e f g : V) (ks : List (List V)) : kidL [a, b, c, d, e, f, g, .dat ks] = ks := rfl
theorem oddL_mk (a b c d e f g : V) (o : List (List V)) : oddL [a, b, c, d, e, f, .dat o, g] = o := rfl
theorem play_known {n : Nat} {t : List V} (h : Typed Tryz.prog n T.term t) : CallD Tryz.prog F.play_known [.agg t] (· = .bool (knownB t)) := by
 obtain ⟨k, a, b, x, y, vl, o, ks, v, rfl, hv, hok, lo, lk, m, hm, hks⟩ := trm_inv h
 refine callD_by F.play_known_ok ?_
 unfold F.play_known_c knownB
 simp [setOb, List.filter_cons, kd_cons]
 by_cases c : k = 1
 ·simp [c]
 ·by_cases c2 : k = 2 <;> simp [c, c2]
theorem play_plain_1 {n : Nat} {t : List V} (h : Typed Tryz.prog n T.term t) : CallD Tryz.prog F.play_plain_1 [.agg t] (· = .bool (decide (kd t ≠ 1))) := by
 obtain ⟨k, a, b, x, y, vl, o, ks, v, rfl, hv, hok, lo, lk, m, hm, hks⟩ := trm_inv h
 refine callD_by F.play_plain_1_ok ?_
 unfold F.play_plain_1_c
 by_cases c : k = 1 <;> simp [setOb, List.filter_cons, kd_cons, c]
theorem index_Term {n : Nat} {ks : List (List V)} (lk : ks.length ≤ maxLen) (h : ∀ u ∈ ks, Typed Tryz.prog n T.term u) : CallD Tryz.prog F.slices_IndexFunc_Term_Term [.dat ks, .clo F.play_plain_1 []] (fun r => ∃ i : Int, r = .int .i64 i ∧ (0 ≤ i ↔ (ks.any fun u => decide (kd u ≠ 1)) = true)) := by
 have lm : maxLen = 9223372036854775807 := rfl
 refine callD_by F.slices_IndexFunc_Term_Term_ok ?_
 unfold F.slices_IndexFunc_Term_Term_c
 simp
 refine wm_loop (fun g : Nat => (((((Sl.empty.set 8 (.int .i64 g)).set 7 (.int .i64 ks.length)).set 1 (.clo F.play_plain_1 [])).set 0 (.dat ks)), [])) (fun g => g ≤ ks.length ∧ ∀ u ∈ ks.take g, kd u = 1) (fun g => ks.length - g) 0 (by simp) ?_ ?_
 ·exact weak_p (by repeat (first | exact sub_empty | refine sub_set (by simp) ?_)) (by repeat (first | exact sin_empty | refine sin_set (by simp [V.within]) ?_))
 rintro i ⟨hi, hall⟩
 by_cases h1 : i < ks.length
 ·have hu := h _ (List.getElem_mem h1)
  have l8 : ks[i].length = 8 := by
   obtain ⟨k, a, b, x, y, vl, o, ks', v, e, _⟩ := trm_inv hu
   rw [e]; rfl
  have tk : List.take 8 ks[i] = ks[i] := List.take_of_length_le (by omega)
  simp [h1, l8, tk]
  refine ⟨_, _, ⟨rfl, rfl⟩, callK_of (play_plain_1 hu) (by simp [trm_toD hu]) ?_⟩
  by_cases c : kd ks[i] = 1
  ·simp [c]
   rw [wrap64 (by omega) (by omega)]
   refine ⟨i + 1, ⟨h1, fun u hu => ?_⟩, by dsimp only; omega, ?_⟩
   ·rw [List.take_succ_eq_append_getElem h1] at hu
    rcases List.mem_append.1 hu with hu | hu
    ·exact hall u hu
    ·simp at hu; subst hu; exact c
   ·exact weak_p (by repeat (first | exact sub_empty | refine sub_set (by simp) ?_)) (by repeat (first | exact sin_empty | refine sin_set (by simp [V.within]) ?_))
  ·simp [c]
   exact ⟨ks[i], List.getElem_mem h1, c⟩
 ·have hik : i = ks.length := by omega
  subst hik
  rw [List.take_length] at hall
  simp [h1]
  exact hall
theorem contains_Term {n : Nat} {ks : List (List V)} (lk : ks.length ≤ maxLen) (h : ∀ u ∈ ks, Typed Tryz.prog n T.term u) : CallD Tryz.prog F.slices_ContainsFunc_Term_Term [.dat ks, .clo F.play_plain_1 []] (· = .bool (ks.any fun u => decide (kd u ≠ 1))) := by
 refine callD_by F.slices_ContainsFunc_Term_Term_ok ?_
 unfold F.slices_ContainsFunc_Term_Term_c
 simp
 refine callK_rel (index_Term lk h) (by simp; rfl) ?_
 rintro r ⟨i, rfl, hi⟩
 by_cases c : 0 ≤ i
 ·simp [c]
  simpa using hi.1 c
 ·have : ¬ (ks.any fun u => decide (kd u ≠ 1)) = true := fun h => c (hi.2 h)
  simp [c]
  simpa using this
theorem play_plain {n : Nat} {t : List V} (h : Typed Tryz.prog n T.term t) : CallD Tryz.prog F.play_plain [.agg t] (· = .bool (plainB t)) := by
 obtain ⟨k, a, b, x, y, vl, o, ks, v, rfl, hv, hok, lo, lk, m, hm, hks⟩ := trm_inv h
 refine callD_by F.play_plain_ok ?_
 unfold F.play_plain_c plainB
 simp [setOb, List.filter_cons, kd_cons, oddL_mk, kidL_mk]
 by_cases c1 : k = 12
 case neg => simp [c1]
 by_cases c2 : 0 < ks.length
 case neg =>
  have : ¬ (0 : Int) < ks.length := by omega
  simp [c1, c2, this]
 have c2' : (0 : Int) < ks.length := by omega
 by_cases c3 : o.length = ks.length
 case neg =>
  have : ¬ ((o.length : Int) = ks.length) := by omega
  simp [c1, c2, c2', c3, this]
 simp [c1, c2, c2', c3]
 refine callK_of (contains_Term lk hks) (by simp; rfl) ?_
 simp [c1, c2, c2', c3]
 rw [List.not_all_eq_any_not]
theorem two_kids {l : List (List V)} (h : l.length = 2) : ∃ x y, l = [x, y] := by
 match l, h with
 | [x, y], _ => exact ⟨x, y, rfl⟩
set_option maxHeartbeats 2000000 in
theorem play_Weighs {n : Nat} {t : List V} (h : Typed Tryz.prog n T.term t) : CallD Tryz.prog F.play_Weighs [.agg t] (· = .bool (weighsB t)) := by
 obtain ⟨k, a, b, x, y, vl, o, ks, v, rfl, hv, hok, lo, lk, m, hm, hks⟩ := trm_inv h
 have lm : maxLen = 9223372036854775807 := rfl
 refine callD_by F.play_Weighs_ok ?_
 unfold F.play_Weighs_c weighsB
 simp [setOb, List.filter_cons, kd_cons, kidL_mk]
 by_cases c1 : k = 10
 case neg => simp [c1]
 by_cases c2 : ks.length = 2
 case neg =>
  have : ¬ ((ks.length : Int) = 2) := by omega
  simp [c1, this, two_no c2]
 obtain ⟨x0, x1, rfl⟩ := two_kids c2
 have hx := hks x0 (by simp)
 obtain ⟨k', a', b', x', y', vl', o', ks', v', rfl, hv', hok', lo', lk', m', hm', hks'⟩ := trm_inv hx
 simp [c1, two_mk, opB, kd_cons, opn_cons, kidL_mk]
 by_cases d1 : k' = 6
 case neg => simp [d1]
 by_cases d2 : a' = 6
 case neg => simp [d1, d2]
 by_cases d3 : ks'.length = 2
 case neg =>
  have : ¬ ((ks'.length : Int) = 2) := by omega
  simp [d1, d2, this, two_no d3]
 obtain ⟨p, q, rfl⟩ := two_kids d3
 have hp := hks' p (by simp)
 have hq := hks' q (by simp)
 have lp := trm_len hp
 have lq := trm_len hq
 have tp : List.take 8 p = p := List.take_of_length_le (by omega)
 have tq : List.take 8 q = q := List.take_of_length_le (by omega)
 simp [d1, d2, lp, lq, tp, tq, two_mk]
 refine callK_of (play_plain hp) (by simp [trm_toD hp]) ?_
 cases plainB p with
 | true =>
   simp [d1, d2, lp, lq, tp, tq]
   refine callK_of (play_known hq) (by simp [trm_toD hq]) ?_
   cases knownB q with
   | true => simp
   | false =>
     simp [d1, d2, lp, lq, tp, tq]
     refine callK_of (play_known hp) (by simp [trm_toD hp]) ?_
     cases knownB p with
     | false => simp
     | true =>
       simp [d1, d2, lp, lq, tp, tq]
       refine callK_of (play_plain hq) (by simp [trm_toD hq]) ?_
       simp
 | false =>
   simp [d1, d2, lp, lq, tp, tq]
   refine callK_of (play_known hp) (by simp [trm_toD hp]) ?_
   cases knownB p with
   | false => simp
   | true =>
     simp [d1, d2, lp, lq, tp, tq]
     refine callK_of (play_plain hq) (by simp [trm_toD hq]) ?_
     simp
theorem weigh_Weighs {n : Nat} {t : List V} (h : Typed Tryz.prog n T.term t) : CallD Tryz.prog F.weigh_Weighs [.agg t] (· = .bool (weighsB t)) := by
 have hw := play_Weighs h
 have l8 := trm_len h
 have tt := trm_toD h
 have t8 : List.take 8 t = t := List.take_of_length_le (by omega)
 refine callD_by F.weigh_Weighs_ok ?_
 unfold F.weigh_Weighs_c
 simp [setOb, List.filter_cons, l8, t8]
 refine callK_of hw (by simp [tt]) ?_
 simp
set_option maxHeartbeats 2000000 in
theorem ref21_known {n n' : Nat} {d z : List V} (h : Typed Tryz.prog n T.term d) (h' : Typed Tryz.prog n' T.term z) : CallD Tryz.prog F.ref21_known [.agg d, .agg z] (· = .bool (plainB d && knownB z)) := by
 obtain ⟨k, a, b, x, y, vl, o, ks, v, rfl, hv, hok, lo, lk, m, hm, hks⟩ := trm_inv h
 obtain ⟨k', a', b', x', y', vl', o', ks', v', rfl, hv', hok', lo', lk', m', hm', hks'⟩ := trm_inv h'
 have lm : maxLen = 9223372036854775807 := rfl
 refine callD_by F.ref21_known_ok ?_
 unfold F.ref21_known_c plainB knownB
 simp [setOb, List.filter_cons, kd_cons, oddL_mk, kidL_mk]
 by_cases c1 : k = 12
 case neg => simp [c1]
 by_cases c2 : ks.length = 0
 case pos =>
  have e : ks = [] := List.length_eq_zero_iff.1 c2
  subst e
  simp [c1]
 have c2' : 0 < ks.length := by omega
 have c2i : ¬ ((ks.length : Int) = 0) := by omega
 have c2n : ks ≠ [] := fun e => c2 (by rw [e]; rfl)
 by_cases c3 : o.length = ks.length
 case neg =>
  have e1 : ¬ ((ks.length : Int) = o.length) := by omega
  simp [c1, c2', c2i, c2n, c3, e1]
 by_cases c4 : k' = 1 ∨ k' = 2
 case neg =>
  have e1 : ¬ k' = 1 := fun e => c4 (.inl e)
  have e2 : ¬ k' = 2 := fun e => c4 (.inr e)
  simp [c1, c2', c2i, c2n, c3, e1, e2]
 have c4b : (decide (k' = 1) || decide (k' = 2)) = true := by simpa using c4
 rcases c4 with e4 | e4 <;> (
  subst e4
  simp [c1, c2', c2i, c2n, c3]
  refine wm_loop (fun g : Nat => ((((Sl.empty.set 38 (.int .i64 g)).set 37 (.int .i64 ks.length)).set 36 (.dat ks)), [])) (fun g => g ≤ ks.length ∧ ∀ u ∈ ks.take g, kd u = 1) (fun g => ks.length - g) 0 (by simp) ?_ ?_
  ·exact weak_p (by repeat (first | exact sub_empty | refine sub_set (by simp) ?_)) (by repeat (first | exact sin_empty | refine sin_set (by simp [V.within]) ?_))
  rintro i ⟨hi, hall⟩
  by_cases h1 : i < ks.length
  ·have hu := hks _ (List.getElem_mem h1)
   obtain ⟨k2, a2, b2, x2, y2, vl2, o2, ks2, v2, e2, _⟩ := trm_inv hu
   have ek : kd ks[i] = k2 := by rw [e2]; rfl
   by_cases c : k2 = 1
   ·simp [h1, e2, c, setOb, List.filter_cons]
    rw [wrap64 (by omega) (by omega)]
    refine ⟨i + 1, ⟨h1, fun u hu => ?_⟩, by dsimp only; omega, ?_⟩
    ·rw [List.take_succ_eq_append_getElem h1] at hu
     rcases List.mem_append.1 hu with hu | hu
     ·exact hall u hu
     ·simp at hu; subst hu; rw [ek]; exact c
    ·exact weak_p (by repeat (first | exact sub_empty | refine sub_set (by simp) ?_)) (by repeat (first | exact sin_empty | refine sin_set (by simp [V.within]) ?_))
   ·simp [h1, e2, c, setOb, List.filter_cons]
    exact ⟨ks[i], List.getElem_mem h1, by rw [ek]; exact c⟩
  ·have hik : i = ks.length := by omega
   subst hik
   rw [List.take_length] at hall
   simp [h1]
   exact hall)
set_option maxHeartbeats 2000000 in
theorem ref21_Weighs {n : Nat} {t : List V} (h : Typed Tryz.prog n T.term t) : CallD Tryz.prog F.ref21_Weighs [.agg t] (· = .bool (weighsB t)) := by
 obtain ⟨k, a, b, x, y, vl, o, ks, v, rfl, hv, hok, lo, lk, m, hm, hks⟩ := trm_inv h
 have lm : maxLen = 9223372036854775807 := rfl
 refine callD_by F.ref21_Weighs_ok ?_
 unfold F.ref21_Weighs_c weighsB
 simp [setOb, List.filter_cons, kd_cons, kidL_mk]
 by_cases c1 : k = 10
 case neg => simp [c1]
 by_cases c2 : ks.length = 2
 case neg =>
  have : ¬ ((ks.length : Int) = 2) := by omega
  simp [c1, this, two_no c2]
 obtain ⟨x0, x1, rfl⟩ := two_kids c2
 have hx := hks x0 (by simp)
 obtain ⟨k', a', b', x', y', vl', o', ks', v', rfl, hv', hok', lo', lk', m', hm', hks'⟩ := trm_inv hx
 simp [c1, two_mk, opB, kd_cons, opn_cons, kidL_mk, setOb, List.filter_cons]
 by_cases d1 : k' = 6
 case neg => simp [d1]
 by_cases d2 : a' = 6
 case neg => simp [d1, d2]
 by_cases d3 : ks'.length = 2
 case neg =>
  have : ¬ ((ks'.length : Int) = 2) := by omega
  simp [d1, d2, this, two_no d3]
 obtain ⟨p, q, rfl⟩ := two_kids d3
 have hp := hks' p (by simp)
 have hq := hks' q (by simp)
 have lp := trm_len hp
 have lq := trm_len hq
 have tp : List.take 8 p = p := List.take_of_length_le (by omega)
 have tq : List.take 8 q = q := List.take_of_length_le (by omega)
 simp [d1, d2, lp, lq, tp, tq, two_mk]
 refine callFK_of (ref21_known hp hq) (by simp [trm_toD hp, trm_toD hq]) ?_
 cases e1 : (plainB p && knownB q) with
 | true => simp [e1]
 | false =>
   simp [e1, lp, lq, tp, tq]
   refine callFK_of (ref21_known hq hp) (by simp [trm_toD hp, trm_toD hq]) ?_
   simp [e1, Bool.and_comm]
theorem ref31_Weighs {n : Nat} {t : List V} (h : Typed Tryz.prog n T.term t) : CallD Tryz.prog F.ref31_Weighs [.agg t] (· = .bool (weighsB t)) := by
 have hw := ref21_Weighs h
 have l8 := trm_len h
 have tt := trm_toD h
 have t8 : List.take 8 t = t := List.take_of_length_le (by omega)
 refine callD_by F.ref31_Weighs_ok ?_
 unfold F.ref31_Weighs_c
 simp [setOb, List.filter_cons, l8, t8]
 refine callK_of hw (by simp [tt]) ?_
 simp
theorem setOb2W (σ : Sto) (o : Nat) (x y : Ob) : setOb (setOb σ o x) o y = setOb σ o y := by simp [setOb, List.filter_cons]
abbrev cellI (y : Int) : Ob := ⟨.own, 1, [[.int .i64 y]]⟩
theorem plain_cellI (y : Int) : Plain (cellI y).cells := fun r hr z hz f => by
 simp at hr; subst hr; simp at hz; subst hz; simp [V.within]
set_option maxHeartbeats 4000000 in
theorem law30_size : ∀ (n : Nat) {t : List V}, Typed Tryz.prog n T.term t → ∀ {σ : Sto} {o : Nat} {x dp : Int}, E.look σ o = some (cellI x) → Shut σ →
 CallX Tryz.prog F.law30_size [.agg t, .int .i64 dp, .ptr o 0 0] σ (fun r s => r = .tup [] ∧ ∃ y : Int, s = setOb σ o (cellI y)) := by
 intro n
 induction n using Nat.strongRecOn with
 | ind n ih =>
 intro t h σ o x dp ho hs
 have h0 := h
 obtain ⟨k, a, b, x1, y1, vl, od, ks, v, rfl, hv, hok, lo, lk, m, hm, hks⟩ := trm_inv h
 have lm : maxLen = 9223372036854775807 := rfl
 have lof := lt_fresh ho
 have of : ¬ o = fresh σ := by omega
 have of' : ¬ fresh σ = o := by omega
 have hMany := law30_Many hok
 rw [← hv] at hMany
 refine callX_by F.law30_size_ok ?_
 unfold F.law30_size_c
 simp [ho, of, of', getOb, setOb2W]
 refine callFK_of hMany (by simp) ?_
 simp [ho, of, of', getOb, setOb2W, frz_nil]
 have hs1 : Shut (setOb σ (fresh σ) ⟨.own, 8, [[.int .i64 k, .int .i64 a, .int .i64 b, .int .i64 x1, .int .i64 y1, .dat vl, .dat od, .dat ks]]⟩) := shut_set hs (fun r hr z hz f => by
  simp at hr; subst hr; exact trm_within h0 f z hz)
 by_cases c : 60 < dp
 case' pos =>
  have c' : ¬ dp ≤ 60 := by omega
  simp only [c, c', true_imp_iff, false_imp_iff, and_true]
  generalize (-1 : Int) = y0
 case' neg =>
  have c' : dp ≤ 60 := by omega
  simp only [c, c', true_imp_iff, false_imp_iff, true_and]
  generalize IntKind.i64.wrap (x - _) = y0
 all_goals
  refine wm_loop (fun g : Nat × Int => (((((Sl.empty.set 6 (.int .i64 g.1)).set 3 (.ptr (fresh σ) 0 0)).set 2 (.ptr o 0 0)).set 1 (.int .i64 dp)), setOb (setOb σ (fresh σ) ⟨.own, 8, [[.int .i64 k, .int .i64 a, .int .i64 b, .int .i64 x1, .int .i64 y1, .dat vl, .dat od, .dat ks]]⟩) o (cellI g.2)))
   (fun g => g.1 ≤ ks.length) (fun g => ks.length - g.1) (0, y0) (by simp) ?_ ?_
  ·refine weak_gen ?_ (Has.refl _) (keep_set (keep_set keys_look)) ?_ (shut_set hs1 (plain_cellI _))
   ·repeat (first | exact sub_empty | refine sub_set (by simp) ?_)
   ·repeat (first | exact sin_empty | refine sin_set (by first | (simp; done) | (simp only [within_ptr, look_setOb]; simp [of, of'])) ?_)
  rintro ⟨i, y⟩ hi
  dsimp only at hi
  have hlo : E.look (setOb (setOb σ (fresh σ) ⟨.own, 8, [[.int .i64 k, .int .i64 a, .int .i64 b, .int .i64 x1, .int .i64 y1, .dat vl, .dat od, .dat ks]]⟩) o (cellI y)) o = some (cellI y) := by rw [look_setOb, if_pos rfl]
  have fin : ∀ (S' : Sl), DoneX (List.map (fun x => x.fst) σ) [] (fun r s => r = V.tup [] ∧ ∃ y, s = setOb σ o (cellI y)) .norm S' (setOb (setOb σ (fresh σ) ⟨.own, 8, [[.int .i64 k, .int .i64 a, .int .i64 b, .int .i64 x1, .int .i64 y1, .dat vl, .dat od, .dat ks]]⟩) o (cellI y)) := fun S' => by
   refine doneX_gen (r := .tup []) (l := []) (σ1 := setOb σ o (cellI y)) (by simp) (by simp) rfl ?_ (keep_set keys_look) (shut_set hs (plain_cellI _)) (by simp) ⟨rfl, y, rfl⟩
   intro p z hz
   rw [look_setOb] at hz ⊢
   split
   ·rename_i e; rw [if_pos e] at hz; exact hz
   ·rename_i e
    rw [if_neg e] at hz
    have := lt_fresh hz
    rw [look_setOb, if_neg (by omega)]
    exact hz
  by_cases h1 : i < ks.length
  ·by_cases h2 : 0 ≤ y
   ·have hu := hks _ (List.getElem_mem h1)
    have l8 := trm_len hu
    have t8 : List.take 8 ks[i] = ks[i] := List.take_of_length_le (by omega)
    simp [h1, h2, of, of', getOb, l8, t8, setOb2W]
    refine callK_X (ih m hm hu hlo (shut_set hs1 (plain_cellI _))) ?_
    rintro r s ⟨rfl, y', rfl⟩
    simp [setOb2W]
    rw [wrap64 (by omega) (by omega)]
    refine ⟨(i + 1, y'), h1, by dsimp only; omega, ?_⟩
    refine weak_gen ?_ (Has.refl _) (keep_set (keep_set keys_look)) ?_ (shut_set hs1 (plain_cellI _))
    ·repeat (first | exact sub_empty | refine sub_set (by simp) ?_)
    ·repeat (first | exact sin_empty | refine sin_set (by first | (simp; done) | (simp only [within_ptr, look_setOb]; simp [of, of'])) ?_)
   ·simp [h1, h2, of, of', getOb]
    exact fin _
  ·simp [h1, of, of', getOb]
   exact fin _
end Go.Proofs.YtkockkfmjmheeaaGreat
