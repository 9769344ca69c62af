/- WeighTerms, over data. -/
import Derived.Test.YtkockkfmjmheeaaGreatKD
import Derived.Test.YtkockkfmjmheeaaGreatKC
namespace Go.Proofs.YtkockkfmjmheeaaGreat.F
open Go Go.Proofs Go.Proofs.YtkockkfmjmheeaaGreat.E Go.Proofs.YtkockkfmjmheeaaGreat.Q
abbrev law30_Small : Nat := 5
def law30_Small_c : MFn := ⟨39,(.seq (r [o 1 (.box (.t 0)),o 2 (.mv (.c (.bool false)))] [1]) (.seq (r [o 3 (.alloc [.int .i64 0]),z (.st 1 (.t 3) (i 1500))] [1,3]) (.seq (.seq (r [o 5 (.fA 1 (.t 1)),o 6 (.ld none (.t 5)),o 7 (.lenS (.t 6)),o 8 (.bin .gtr (.t 7) (i 8)),o 9 (.mv (.t 8)),n 10 9 (.fA 0 (.t 1)),n 11 9 (.ld none (.t 10)),n 12 9 (.lenS (.t 11)),n 13 9 (.bin .gtr (.t 12) (i 10)),o 14 (.pick (.t 9) (.c (.bool true)) (.t 13))] [1,3,14]) (.cond (.t 14) (.seq (r [o 2 (.mv (.c (.bool false)))] [2]) .ret) .skip)) (.seq (r [o 15 (.fA 2 (.t 1)),o 16 (.fA 2 (.t 15)),o 17 (.ld (some 8) (.t 16)),o 18 (.call 16 [(.t 17),(i 1),(.t 3)])] [1,3]) (.seq (.seq (r [o 4 (.mv (i 0))] [1,3,4]) (.block 0 (.loop (.seq (.seq (r [o 19 (.mv (.t 4)),o 20 (.fA 1 (.t 1)),o 21 (.ld none (.t 20)),o 22 (.lenS (.t 21)),o 23 (.bin .lss (.t 19) (.t 22)),o 24 (.mv (.t 23)),y 25 24 (.ld none (.t 3)),y 26 24 (.bin .geq (.t 25) (i 0)),o 27 (.pick (.t 24) (.t 26) (.c (.bool false)))] [1,3,4,27]) (.cond (.t 27) .skip (.exit 0))) (.seq (.block 1 (r [o 30 (.fA 1 (.t 1)),o 31 (.ld none (.t 30)),o 32 (.mv (.t 4)),o 33 (.ixA 10 (.t 31) (.t 32)),o 34 (.fA 2 (.t 33)),o 35 (.ld (some 8) (.t 34)),o 36 (.call 16 [(.t 35),(i 1),(.t 3)])] [1,3,4])) (r [o 28 (.mv (.t 4)),o 29 (.bin .add (.t 28) (i 1)),o 4 (.mv (.t 29))] [1,3,4])))))) (.seq (r [o 37 (.ld none (.t 3)),o 38 (.bin .geq (.t 37) (i 0)),o 2 (.mv (.t 38))] [2]) .ret)))))),[.t 2]⟩
theorem law30_Small_ok : cFn Tryz.prog (kps [[1],[1,3],[1,3,14],[2],[1,3],[1,3,4],[1,3,4,27],[1,3,4],[1,3,4],[2]]) [] 5 = some law30_Small_c := by kernel_rfl
abbrev law31_WeighTerms : Nat := 3
def law31_WeighTerms_c : MFn := ⟨16,(.seq (r [o 1 (.box (.t 0)),o 2 (.mv (.c (.bool false)))] [1]) (.seq (.seq (r [o 3 (.ld (some 8) (.t 1)),o 4 (.build [.int .i64 0,.int .i64 0,.int .i64 0,.int .i64 0,.int .i64 0,.int .i64 0,.int .i64 0,.nils,.nils,.nils] [(2,8,(.t 3))]),o 5 (.build [.nils,.nils,.int .i64 0,.int .i64 0,.int .i64 0,.int .i64 0,.int .i64 0,.int .i64 0,.int .i64 0,.nils,.nils,.nils,.int .i64 0] [(2,10,(.t 4))]),o 6 (.call 5 [(.t 5)]),o 7 (.un .not (.t 6))] [1,7]) (.cond (.t 7) (.seq (r [o 2 (.mv (.c (.bool true)))] [2]) .ret) .skip)) (.seq (r [o 8 (.ld (some 8) (.t 1)),o 9 (.callF 6 [(.t 8)]),o 10 (.ld (some 8) (.t 1)),o 11 (.callF 7 [(.t 10)]),o 12 (.binB .eql (.t 9) (.t 11)),o 13 (.mv (.t 12)),y 14 13 (.callF 8 []),o 15 (.pick (.t 13) (.t 14) (.c (.bool false))),o 2 (.mv (.t 15))] [2]) .ret))),[.t 2]⟩
theorem law31_WeighTerms_ok : cFn Tryz.prog (kps [[1],[1,7],[2],[2]]) [] 3 = some law31_WeighTerms_c := by kernel_rfl
end Go.Proofs.YtkockkfmjmheeaaGreat.F

namespace Go.Proofs.YtkockkfmjmheeaaGreat
open Go Go.Proofs Go.Proofs.YtkockkfmjmheeaaGreat.E
set_option linter.unusedSimpArgs false
set_option linter.unusedVariables false
set_option maxHeartbeats 4000000 in
theorem law30_Small {n : Nat} {t : List V} (h : Typed Tryz.prog n T.term t) : CallD Tryz.prog F.law30_Small [.agg (.dat [] :: .dat [] :: .int .i64 0 :: .int .i64 0 :: (t ++ [.int .i64 0]))] (fun r => ∃ b, r = .bool b) := by
 have h0 := h
 obtain ⟨k, a, b, x, y, vl, o, ks, v, rfl, hv, hok, lo, lk, m, hm, hks⟩ := trm_inv h
 refine callD_by F.law30_Small_ok ?_
 unfold F.law30_Small_c
 simp [setOb, List.filter_cons]
 have hz := law30_size n h0 (σ := [(1, cellI 1500), (0, ⟨.own, 13, [[.dat [], .dat [], .int .i64 0, .int .i64 0, .int .i64 k, .int .i64 a, .int .i64 b, .int .i64 x, .int .i64 y, .dat vl, .dat o, .dat ks, .int .i64 0]]⟩)]) (o := 1) (x := 1500) (dp := 1) (by simp [E.look]) (by
  intro p z hz hd r hr u hu
  simp [E.look] at hz
  split at hz
  ·injection hz with hz; subst hz
   simp at hr; subst hr; simp at hu; subst hu; simp [V.within]
  ·split at hz
   ·injection hz with hz; subst hz
    simp at hr; subst hr; simp at hu
    rcases hu with rfl | rfl | rfl | rfl | rfl | rfl | rfl | rfl | rfl | rfl | rfl | rfl | rfl <;> simp [V.within]
   ·simp at hz)
 refine callK_X hz ?_
 rintro r s ⟨rfl, y', rfl⟩
 simp [setOb, List.filter_cons]
 refine wm_loop (fun _ : Nat => ((((Sl.empty.set 4 (.int .i64 0)).set 3 (.ptr 1 0 0)).set 1 (.ptr 0 0 0)), [(1, cellI y'), (0, ⟨.own, 13, [[.dat [], .dat [], .int .i64 0, .int .i64 0, .int .i64 k, .int .i64 a, .int .i64 b, .int .i64 x, .int .i64 y, .dat vl, .dat o, .dat ks, .int .i64 0]]⟩)])) (fun _ => True) (fun g => g) 0 trivial ?_ ?_
 ·refine weak_obs ?_ (by simp) (by repeat (first | exact sin_empty | refine sin_set (by simp) ?_)) (by simp [V.within])
  repeat (first | exact sub_empty | refine sub_set (by simp) ?_)
 rintro g -
 simp
 omega
theorem weighTerms_law {l0 : List V} (h : ∃ n, Typed Tryz.prog n T.term l0) : CallD Tryz.prog F.law31_WeighTerms [.agg l0] (· = .bool true) := by
 obtain ⟨n, h⟩ := h
 have h0 := h
 have hS := law30_Small h0
 have hW := weigh_Weighs h0
 have hR := ref31_Weighs h0
 obtain ⟨k, a, b, x, y, vl, o, ks, v, rfl, hv, hok, lo, lk, m, hm, hks⟩ := trm_inv h
 refine callD_by F.law31_WeighTerms_ok ?_
 unfold F.law31_WeighTerms_c
 simp [setOb, List.filter_cons]
 refine callK_rel hS (by simp) ?_
 rintro r ⟨c, rfl⟩
 cases c with
 | false => simp
 | true =>
 simp [setOb, List.filter_cons]
 refine callFK_of hW (by simp) ?_
 simp
 refine callFK_of hR (by simp) ?_
 simp
 refine callFK_of law31_alive (by simp) ?_
 simp
end Go.Proofs.YtkockkfmjmheeaaGreat
